/-
  No cell of these rows narrows 'for every input' (looked for: loops, veiled, ifaces, maps, wideKeys, modest, calm, conditions, laid).
  DERIVED. THE GIVEN ROWS OF THIS SEAT. 8 by the template 'for every input the law returns true; each argument reads behind the call as it read before'; 0 by the template 'total and deterministic' (their statements: YtfbkjlgibpmpoaaTotals.lean).
  GIVEN WITH THE SEED: the statements are not yours to turn. If you find one false, say at which input.
  Laid BY PROGRAM, IN A SANDBOX (cutbox-rows.mjs): the forced cells as the released guide's own fill.sh prints them over the translation 85a40632ce651694… (all of the seat's roots in one cut). By AI agents, Wed Nov 11 2026. No macro, syntax, notation, axiom, sorry.
-/
import Derived.Test.YtfbkjlgibpmpoaaChecked
import GoSem.Claim
import GoSem.ClaimJoined
import GoSem.ClaimMapViews
import Derived.JoinedTies
import Derived.KernelRfl
namespace Go.Proofs.Ytfbkjlgibpmpoaa
/- THE CELL 'sum', in the pinned program and in every row, IS THE sha256 OF THE DUMP (.gsa) THAT YtfbkjlgibpmpoaaProg.lean LOADS. Nothing in Lean hashes anything: it is a label: what it is worth is what the hold of that sum in a sandbox is worth. -/
noncomputable def Try.pinned : Pinned := { name := "ytfbkjlgibpmpoaa", sum := "85a40632ce651694058feb741ec94bf7e1f7bb5112fa12a99cb63fcae6ddf5f9", checked := Try.checked }
namespace Rows
def none {H : Type} : Left H := { results := [], args := [] }

/-- 'laws.FnExactNewDesk': WHATEVER THE INPUT: true; the input reads as it did. -/
def fnExactNewDeskSpec : ChangeSpec := { name := "fnExactNewDesk", fn := fun _ => fun
  | [] => { results := [.lit (.bool true)], args := [] }
  | _ => none }
def fnExactNewDeskRow : OpenClaim := { program := "ytfbkjlgibpmpoaa", sum := "85a40632ce651694058feb741ec94bf7e1f7bb5112fa12a99cb63fcae6ddf5f9", func := "loop.example/g01260/laws.FnExactNewDesk", spec := "fnExactNewDesk", apart := false }
def FnExactNewDeskSaid : Prop := fnExactNewDeskRow.holds Try.pinned (OpenSpec.ofChange fnExactNewDeskSpec)

/-- ITS FALSE NEIGHBOUR: 'it returns false'. Refute it at one input. -/
def fnExactNewDeskWrong : ChangeSpec := { name := "fnExactNewDesk", fn := fun _ => fun
  | [] => { results := [.lit (.bool false)], args := [] }
  | _ => none }
def FnExactNewDeskWrongFalsely : Prop := fnExactNewDeskRow.holds Try.pinned (OpenSpec.ofChange fnExactNewDeskWrong)

/-- 'laws.FnExactIsDesk': WHATEVER THE INPUT: true; the input reads as it did. -/
def fnExactIsDeskSpec : ChangeSpec := { name := "fnExactIsDesk", fn := fun _ => fun
  | [d] => { results := [.lit (.bool true)], args := [d] }
  | _ => none }
def fnExactIsDeskRow : OpenClaim := { program := "ytfbkjlgibpmpoaa", sum := "85a40632ce651694058feb741ec94bf7e1f7bb5112fa12a99cb63fcae6ddf5f9", func := "loop.example/g01260/laws.FnExactIsDesk", spec := "fnExactIsDesk", inPlace := ["internal/bytealg.abigen_runtime_cmpstring"], unfollowed := true, recurses := true, apart := false }
def FnExactIsDeskSaid : Prop := fnExactIsDeskRow.holds Try.pinned (OpenSpec.ofChange fnExactIsDeskSpec)

/-- ITS FALSE NEIGHBOUR: 'it returns false'. Refute it at one input. -/
def fnExactIsDeskWrong : ChangeSpec := { name := "fnExactIsDesk", fn := fun _ => fun
  | [d] => { results := [.lit (.bool false)], args := [d] }
  | _ => none }
def FnExactIsDeskWrongFalsely : Prop := fnExactIsDeskRow.holds Try.pinned (OpenSpec.ofChange fnExactIsDeskWrong)

/-- 'laws.FnExactMultiplyTables': WHATEVER THE INPUT: true; the input reads as it did. -/
def fnExactMultiplyTablesSpec : ChangeSpec := { name := "fnExactMultiplyTables", fn := fun _ => fun
  | [d1, d2] => { results := [.lit (.bool true)], args := [d1, d2] }
  | _ => none }
def fnExactMultiplyTablesRow : OpenClaim := { program := "ytfbkjlgibpmpoaa", sum := "85a40632ce651694058feb741ec94bf7e1f7bb5112fa12a99cb63fcae6ddf5f9", func := "loop.example/g01260/laws.FnExactMultiplyTables", spec := "fnExactMultiplyTables", unfollowed := true, recurses := true, apart := false }
def FnExactMultiplyTablesSaid : Prop := fnExactMultiplyTablesRow.holds Try.pinned (OpenSpec.ofChange fnExactMultiplyTablesSpec)

/-- ITS FALSE NEIGHBOUR: 'it returns false'. Refute it at one input. -/
def fnExactMultiplyTablesWrong : ChangeSpec := { name := "fnExactMultiplyTables", fn := fun _ => fun
  | [d1, d2] => { results := [.lit (.bool false)], args := [d1, d2] }
  | _ => none }
def FnExactMultiplyTablesWrongFalsely : Prop := fnExactMultiplyTablesRow.holds Try.pinned (OpenSpec.ofChange fnExactMultiplyTablesWrong)

/-- 'laws.FnExactStrictSeries': WHATEVER THE INPUT: true; the input reads as it did. -/
def fnExactStrictSeriesSpec : ChangeSpec := { name := "fnExactStrictSeries", fn := fun _ => fun
  | [d1, d2, d3] => { results := [.lit (.bool true)], args := [d1, d2, d3] }
  | _ => none }
def fnExactStrictSeriesRow : OpenClaim := { program := "ytfbkjlgibpmpoaa", sum := "85a40632ce651694058feb741ec94bf7e1f7bb5112fa12a99cb63fcae6ddf5f9", func := "loop.example/g01260/laws.FnExactStrictSeries", spec := "fnExactStrictSeries", unfollowed := true, recurses := true, apart := false }
def FnExactStrictSeriesSaid : Prop := fnExactStrictSeriesRow.holds Try.pinned (OpenSpec.ofChange fnExactStrictSeriesSpec)

/-- ITS FALSE NEIGHBOUR: 'it returns false'. Refute it at one input. -/
def fnExactStrictSeriesWrong : ChangeSpec := { name := "fnExactStrictSeries", fn := fun _ => fun
  | [d1, d2, d3] => { results := [.lit (.bool false)], args := [d1, d2, d3] }
  | _ => none }
def FnExactStrictSeriesWrongFalsely : Prop := fnExactStrictSeriesRow.holds Try.pinned (OpenSpec.ofChange fnExactStrictSeriesWrong)

/-- 'laws.FnExactWeakSeries': WHATEVER THE INPUT: true; the input reads as it did. -/
def fnExactWeakSeriesSpec : ChangeSpec := { name := "fnExactWeakSeries", fn := fun _ => fun
  | [d1, d2, d3] => { results := [.lit (.bool true)], args := [d1, d2, d3] }
  | _ => none }
def fnExactWeakSeriesRow : OpenClaim := { program := "ytfbkjlgibpmpoaa", sum := "85a40632ce651694058feb741ec94bf7e1f7bb5112fa12a99cb63fcae6ddf5f9", func := "loop.example/g01260/laws.FnExactWeakSeries", spec := "fnExactWeakSeries", unfollowed := true, recurses := true, apart := false }
def FnExactWeakSeriesSaid : Prop := fnExactWeakSeriesRow.holds Try.pinned (OpenSpec.ofChange fnExactWeakSeriesSpec)

/-- ITS FALSE NEIGHBOUR: 'it returns false'. Refute it at one input. -/
def fnExactWeakSeriesWrong : ChangeSpec := { name := "fnExactWeakSeries", fn := fun _ => fun
  | [d1, d2, d3] => { results := [.lit (.bool false)], args := [d1, d2, d3] }
  | _ => none }
def FnExactWeakSeriesWrongFalsely : Prop := fnExactWeakSeriesRow.holds Try.pinned (OpenSpec.ofChange fnExactWeakSeriesWrong)

/-- 'laws.FnExactDepthOfWord': WHATEVER THE INPUT: true; the input reads as it did. -/
def fnExactDepthOfWordSpec : ChangeSpec := { name := "fnExactDepthOfWord", fn := fun _ => fun
  | [d1, d2, d3] => { results := [.lit (.bool true)], args := [d1, d2, d3] }
  | _ => none }
def fnExactDepthOfWordRow : OpenClaim := { program := "ytfbkjlgibpmpoaa", sum := "85a40632ce651694058feb741ec94bf7e1f7bb5112fa12a99cb63fcae6ddf5f9", func := "loop.example/g01260/laws.FnExactDepthOfWord", spec := "fnExactDepthOfWord", unfollowed := true, recurses := true, apart := false }
def FnExactDepthOfWordSaid : Prop := fnExactDepthOfWordRow.holds Try.pinned (OpenSpec.ofChange fnExactDepthOfWordSpec)

/-- ITS FALSE NEIGHBOUR: 'it returns false'. Refute it at one input. -/
def fnExactDepthOfWordWrong : ChangeSpec := { name := "fnExactDepthOfWord", fn := fun _ => fun
  | [d1, d2, d3] => { results := [.lit (.bool false)], args := [d1, d2, d3] }
  | _ => none }
def FnExactDepthOfWordWrongFalsely : Prop := fnExactDepthOfWordRow.holds Try.pinned (OpenSpec.ofChange fnExactDepthOfWordWrong)

/-- 'laws.FnExactQuasiProduct': WHATEVER THE INPUT: true; the input reads as it did. -/
def fnExactQuasiProductSpec : ChangeSpec := { name := "fnExactQuasiProduct", fn := fun _ => fun
  | [d1, d2] => { results := [.lit (.bool true)], args := [d1, d2] }
  | _ => none }
def fnExactQuasiProductRow : OpenClaim := { program := "ytfbkjlgibpmpoaa", sum := "85a40632ce651694058feb741ec94bf7e1f7bb5112fa12a99cb63fcae6ddf5f9", func := "loop.example/g01260/laws.FnExactQuasiProduct", spec := "fnExactQuasiProduct", unfollowed := true, recurses := true, apart := false }
def FnExactQuasiProductSaid : Prop := fnExactQuasiProductRow.holds Try.pinned (OpenSpec.ofChange fnExactQuasiProductSpec)

/-- ITS FALSE NEIGHBOUR: 'it returns false'. Refute it at one input. -/
def fnExactQuasiProductWrong : ChangeSpec := { name := "fnExactQuasiProduct", fn := fun _ => fun
  | [d1, d2] => { results := [.lit (.bool false)], args := [d1, d2] }
  | _ => none }
def FnExactQuasiProductWrongFalsely : Prop := fnExactQuasiProductRow.holds Try.pinned (OpenSpec.ofChange fnExactQuasiProductWrong)

/-- 'laws.FnExactSignatureOfWord': WHATEVER THE INPUT: true; the input reads as it did. -/
def fnExactSignatureOfWordSpec : ChangeSpec := { name := "fnExactSignatureOfWord", fn := fun _ => fun
  | [d1, d2, d3] => { results := [.lit (.bool true)], args := [d1, d2, d3] }
  | _ => none }
def fnExactSignatureOfWordRow : OpenClaim := { program := "ytfbkjlgibpmpoaa", sum := "85a40632ce651694058feb741ec94bf7e1f7bb5112fa12a99cb63fcae6ddf5f9", func := "loop.example/g01260/laws.FnExactSignatureOfWord", spec := "fnExactSignatureOfWord", unfollowed := true, recurses := true, apart := false }
def FnExactSignatureOfWordSaid : Prop := fnExactSignatureOfWordRow.holds Try.pinned (OpenSpec.ofChange fnExactSignatureOfWordSpec)

/-- ITS FALSE NEIGHBOUR: 'it returns false'. Refute it at one input. -/
def fnExactSignatureOfWordWrong : ChangeSpec := { name := "fnExactSignatureOfWord", fn := fun _ => fun
  | [d1, d2, d3] => { results := [.lit (.bool false)], args := [d1, d2, d3] }
  | _ => none }
def FnExactSignatureOfWordWrongFalsely : Prop := fnExactSignatureOfWordRow.holds Try.pinned (OpenSpec.ofChange fnExactSignatureOfWordWrong)

/- THE SECOND FORM. 'bulk': how many values and letters a reading holds, each counted each time it is reached (what is shared counts as often as it is met; a slice's spare places count too). A statement '..UptoSaid' is the law's where the arguments, and the package variables that the reading takes, are together of bulk at most 1048576: NARROWER than '..Said'. Prove '..Said' where nothing that the law and all that it calls make is longer than what came in: it says more and counts as full. Else prove '..UptoSaid'. A law counts once. -/
mutual
def uptoBulk {H : Type} : DataW H → Nat
  | .lit (.string bytes) => bytes.length + 1
  | .lit _ => 1
  | .nil => 1
  | .ptr d => uptoBulk d + 1
  | .slice elems spare => uptoBulkAll elems + uptoBulkAll spare + 1
  | .agg parts => uptoBulkAll parts + 1
  | .iface _ d => uptoBulk d + 1
  | .map entries => uptoBulkEntries entries + 1
  | .held _ => 1
def uptoBulkAll {H : Type} : List (DataW H) → Nat
  | [] => 0
  | d :: r => uptoBulk d + uptoBulkAll r
def uptoBulkEntries {H : Type} : List (Lit × DataW H) → Nat
  | [] => 0
  | x :: r => uptoBulkEntry x + uptoBulkEntries r
def uptoBulkEntry {H : Type} : Lit × DataW H → Nat
  | (.string bytes, d) => bytes.length + uptoBulk d + 1
  | (_, d) => uptoBulk d + 1
 end
def uptoSmall : (H : Type) → List (DataW H) → Bool := fun _ ds => decide (uptoBulkAll ds ≤ 1048576)
def OpenSpec.upto (s : _root_.Go.ChangeSpec) : _root_.Go.OpenSpec := { _root_.Go.OpenSpec.ofChange s with cond := some uptoSmall }

/-- 'laws.FnExactNewDesk', WHERE WHAT IT READS IS OF BULK AT MOST 1048576: true; the input reads as it did. -/
def fnExactNewDeskUptoRow : OpenClaim := { program := "ytfbkjlgibpmpoaa", sum := "85a40632ce651694058feb741ec94bf7e1f7bb5112fa12a99cb63fcae6ddf5f9", func := "loop.example/g01260/laws.FnExactNewDesk", spec := "fnExactNewDesk", apart := false, narrowed := true }
def FnExactNewDeskUptoSaid : Prop := fnExactNewDeskUptoRow.holds Try.pinned (OpenSpec.upto fnExactNewDeskSpec)

/-- 'laws.FnExactIsDesk', WHERE WHAT IT READS IS OF BULK AT MOST 1048576: true; the input reads as it did. -/
def fnExactIsDeskUptoRow : OpenClaim := { program := "ytfbkjlgibpmpoaa", sum := "85a40632ce651694058feb741ec94bf7e1f7bb5112fa12a99cb63fcae6ddf5f9", func := "loop.example/g01260/laws.FnExactIsDesk", spec := "fnExactIsDesk", inPlace := ["internal/bytealg.abigen_runtime_cmpstring"], unfollowed := true, recurses := true, apart := false, narrowed := true }
def FnExactIsDeskUptoSaid : Prop := fnExactIsDeskUptoRow.holds Try.pinned (OpenSpec.upto fnExactIsDeskSpec)

/-- 'laws.FnExactMultiplyTables', WHERE WHAT IT READS IS OF BULK AT MOST 1048576: true; the input reads as it did. -/
def fnExactMultiplyTablesUptoRow : OpenClaim := { program := "ytfbkjlgibpmpoaa", sum := "85a40632ce651694058feb741ec94bf7e1f7bb5112fa12a99cb63fcae6ddf5f9", func := "loop.example/g01260/laws.FnExactMultiplyTables", spec := "fnExactMultiplyTables", unfollowed := true, recurses := true, apart := false, narrowed := true }
def FnExactMultiplyTablesUptoSaid : Prop := fnExactMultiplyTablesUptoRow.holds Try.pinned (OpenSpec.upto fnExactMultiplyTablesSpec)

/-- 'laws.FnExactStrictSeries', WHERE WHAT IT READS IS OF BULK AT MOST 1048576: true; the input reads as it did. -/
def fnExactStrictSeriesUptoRow : OpenClaim := { program := "ytfbkjlgibpmpoaa", sum := "85a40632ce651694058feb741ec94bf7e1f7bb5112fa12a99cb63fcae6ddf5f9", func := "loop.example/g01260/laws.FnExactStrictSeries", spec := "fnExactStrictSeries", unfollowed := true, recurses := true, apart := false, narrowed := true }
def FnExactStrictSeriesUptoSaid : Prop := fnExactStrictSeriesUptoRow.holds Try.pinned (OpenSpec.upto fnExactStrictSeriesSpec)

/-- 'laws.FnExactWeakSeries', WHERE WHAT IT READS IS OF BULK AT MOST 1048576: true; the input reads as it did. -/
def fnExactWeakSeriesUptoRow : OpenClaim := { program := "ytfbkjlgibpmpoaa", sum := "85a40632ce651694058feb741ec94bf7e1f7bb5112fa12a99cb63fcae6ddf5f9", func := "loop.example/g01260/laws.FnExactWeakSeries", spec := "fnExactWeakSeries", unfollowed := true, recurses := true, apart := false, narrowed := true }
def FnExactWeakSeriesUptoSaid : Prop := fnExactWeakSeriesUptoRow.holds Try.pinned (OpenSpec.upto fnExactWeakSeriesSpec)

/-- 'laws.FnExactDepthOfWord', WHERE WHAT IT READS IS OF BULK AT MOST 1048576: true; the input reads as it did. -/
def fnExactDepthOfWordUptoRow : OpenClaim := { program := "ytfbkjlgibpmpoaa", sum := "85a40632ce651694058feb741ec94bf7e1f7bb5112fa12a99cb63fcae6ddf5f9", func := "loop.example/g01260/laws.FnExactDepthOfWord", spec := "fnExactDepthOfWord", unfollowed := true, recurses := true, apart := false, narrowed := true }
def FnExactDepthOfWordUptoSaid : Prop := fnExactDepthOfWordUptoRow.holds Try.pinned (OpenSpec.upto fnExactDepthOfWordSpec)

/-- 'laws.FnExactQuasiProduct', WHERE WHAT IT READS IS OF BULK AT MOST 1048576: true; the input reads as it did. -/
def fnExactQuasiProductUptoRow : OpenClaim := { program := "ytfbkjlgibpmpoaa", sum := "85a40632ce651694058feb741ec94bf7e1f7bb5112fa12a99cb63fcae6ddf5f9", func := "loop.example/g01260/laws.FnExactQuasiProduct", spec := "fnExactQuasiProduct", unfollowed := true, recurses := true, apart := false, narrowed := true }
def FnExactQuasiProductUptoSaid : Prop := fnExactQuasiProductUptoRow.holds Try.pinned (OpenSpec.upto fnExactQuasiProductSpec)

/-- 'laws.FnExactSignatureOfWord', WHERE WHAT IT READS IS OF BULK AT MOST 1048576: true; the input reads as it did. -/
def fnExactSignatureOfWordUptoRow : OpenClaim := { program := "ytfbkjlgibpmpoaa", sum := "85a40632ce651694058feb741ec94bf7e1f7bb5112fa12a99cb63fcae6ddf5f9", func := "loop.example/g01260/laws.FnExactSignatureOfWord", spec := "fnExactSignatureOfWord", unfollowed := true, recurses := true, apart := false, narrowed := true }
def FnExactSignatureOfWordUptoSaid : Prop := fnExactSignatureOfWordUptoRow.holds Try.pinned (OpenSpec.upto fnExactSignatureOfWordSpec)

end Rows
end Go.Proofs.Ytfbkjlgibpmpoaa
