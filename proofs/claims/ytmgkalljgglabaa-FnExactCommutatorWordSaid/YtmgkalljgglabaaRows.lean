/-
  No cell of these rows narrows 'for every input' (looked for: loops, veiled, ifaces, maps, wideKeys, modest, calm, conditions, laid).
  DERIVED. THE GIVEN ROWS OF THIS SEAT. 12 by the template 'for every input the law returns true; each argument reads behind the call as it read before'; 0 by the template 'total and deterministic' (their statements: YtmgkalljgglabaaTotals.lean).
  GIVEN WITH THE SEED: the statements are not yours to turn. If you find one false, say at which input.
  Laid BY PROGRAM, IN A SANDBOX (cutbox-rows.mjs): the forced cells as the released guide's own fill.sh prints them over the translation 07f086f1850e5e13… (all of the seat's roots in one cut). By AI agents, Wed Nov 11 2026. No macro, syntax, notation, axiom, sorry.
-/
import Derived.Test.YtmgkalljgglabaaChecked
import GoSem.Claim
import GoSem.ClaimJoined
import GoSem.ClaimMapViews
import Derived.JoinedTies
import Derived.KernelRfl
namespace Go.Proofs.Ytmgkalljgglabaa
/- THE CELL 'sum', in the pinned program and in every row, IS THE sha256 OF THE DUMP (.gsa) THAT YtmgkalljgglabaaProg.lean LOADS. Nothing in Lean hashes anything: it is a label: what it is worth is what the hold of that sum in a sandbox is worth. -/
noncomputable def Try.pinned : Pinned := { name := "ytmgkalljgglabaa", sum := "07f086f1850e5e13527ebf551c61e656fa87d20953560aa2a53cda12ab2c5003", checked := Try.checked }
namespace Rows
def none {H : Type} : Left H := { results := [], args := [] }

/-- 'laws.FnExactIsGroupWord': WHATEVER THE INPUT: true; the input reads as it did. -/
def fnExactIsGroupWordSpec : ChangeSpec := { name := "fnExactIsGroupWord", fn := fun _ => fun
  | [d1, d2] => { results := [.lit (.bool true)], args := [d1, d2] }
  | _ => none }
def fnExactIsGroupWordRow : OpenClaim := { program := "ytmgkalljgglabaa", sum := "07f086f1850e5e13527ebf551c61e656fa87d20953560aa2a53cda12ab2c5003", func := "loop.example/g01260/laws.FnExactIsGroupWord", spec := "fnExactIsGroupWord", unfollowed := true, recurses := true, apart := false }
def FnExactIsGroupWordSaid : Prop := fnExactIsGroupWordRow.holds Try.pinned (OpenSpec.ofChange fnExactIsGroupWordSpec)

/-- ITS FALSE NEIGHBOUR: 'it returns false'. Refute it at one input. -/
def fnExactIsGroupWordWrong : ChangeSpec := { name := "fnExactIsGroupWord", fn := fun _ => fun
  | [d1, d2] => { results := [.lit (.bool false)], args := [d1, d2] }
  | _ => none }
def FnExactIsGroupWordWrongFalsely : Prop := fnExactIsGroupWordRow.holds Try.pinned (OpenSpec.ofChange fnExactIsGroupWordWrong)

/-- 'laws.FnExactGroupText': WHATEVER THE INPUT: true; the input reads as it did. -/
def fnExactGroupTextSpec : ChangeSpec := { name := "fnExactGroupText", fn := fun _ => fun
  | [d1, d2] => { results := [.lit (.bool true)], args := [d1, d2] }
  | _ => none }
def fnExactGroupTextRow : OpenClaim := { program := "ytmgkalljgglabaa", sum := "07f086f1850e5e13527ebf551c61e656fa87d20953560aa2a53cda12ab2c5003", func := "loop.example/g01260/laws.FnExactGroupText", spec := "fnExactGroupText", unfollowed := true, recurses := true, apart := false }
def FnExactGroupTextSaid : Prop := fnExactGroupTextRow.holds Try.pinned (OpenSpec.ofChange fnExactGroupTextSpec)

/-- ITS FALSE NEIGHBOUR: 'it returns false'. Refute it at one input. -/
def fnExactGroupTextWrong : ChangeSpec := { name := "fnExactGroupText", fn := fun _ => fun
  | [d1, d2] => { results := [.lit (.bool false)], args := [d1, d2] }
  | _ => none }
def FnExactGroupTextWrongFalsely : Prop := fnExactGroupTextRow.holds Try.pinned (OpenSpec.ofChange fnExactGroupTextWrong)

/-- 'laws.FnExactAreEqualInGroup': WHATEVER THE INPUT: true; the input reads as it did. -/
def fnExactAreEqualInGroupSpec : ChangeSpec := { name := "fnExactAreEqualInGroup", fn := fun _ => fun
  | [d1, d2, d3] => { results := [.lit (.bool true)], args := [d1, d2, d3] }
  | _ => none }
def fnExactAreEqualInGroupRow : OpenClaim := { program := "ytmgkalljgglabaa", sum := "07f086f1850e5e13527ebf551c61e656fa87d20953560aa2a53cda12ab2c5003", func := "loop.example/g01260/laws.FnExactAreEqualInGroup", spec := "fnExactAreEqualInGroup", unfollowed := true, recurses := true, apart := false }
def FnExactAreEqualInGroupSaid : Prop := fnExactAreEqualInGroupRow.holds Try.pinned (OpenSpec.ofChange fnExactAreEqualInGroupSpec)

/-- ITS FALSE NEIGHBOUR: 'it returns false'. Refute it at one input. -/
def fnExactAreEqualInGroupWrong : ChangeSpec := { name := "fnExactAreEqualInGroup", fn := fun _ => fun
  | [d1, d2, d3] => { results := [.lit (.bool false)], args := [d1, d2, d3] }
  | _ => none }
def FnExactAreEqualInGroupWrongFalsely : Prop := fnExactAreEqualInGroupRow.holds Try.pinned (OpenSpec.ofChange fnExactAreEqualInGroupWrong)

/-- 'laws.FnExactReduceWord': WHATEVER THE INPUT: true; the input reads as it did. -/
def fnExactReduceWordSpec : ChangeSpec := { name := "fnExactReduceWord", fn := fun _ => fun
  | [d1, d2] => { results := [.lit (.bool true)], args := [d1, d2] }
  | _ => none }
def fnExactReduceWordRow : OpenClaim := { program := "ytmgkalljgglabaa", sum := "07f086f1850e5e13527ebf551c61e656fa87d20953560aa2a53cda12ab2c5003", func := "loop.example/g01260/laws.FnExactReduceWord", spec := "fnExactReduceWord", unfollowed := true, recurses := true, apart := false }
def FnExactReduceWordSaid : Prop := fnExactReduceWordRow.holds Try.pinned (OpenSpec.ofChange fnExactReduceWordSpec)

/-- ITS FALSE NEIGHBOUR: 'it returns false'. Refute it at one input. -/
def fnExactReduceWordWrong : ChangeSpec := { name := "fnExactReduceWord", fn := fun _ => fun
  | [d1, d2] => { results := [.lit (.bool false)], args := [d1, d2] }
  | _ => none }
def FnExactReduceWordWrongFalsely : Prop := fnExactReduceWordRow.holds Try.pinned (OpenSpec.ofChange fnExactReduceWordWrong)

/-- 'laws.FnExactParseGroup': WHATEVER THE INPUT: true; the input reads as it did. -/
def fnExactParseGroupSpec : ChangeSpec := { name := "fnExactParseGroup", fn := fun _ => fun
  | [d1, d2] => { results := [.lit (.bool true)], args := [d1, d2] }
  | _ => none }
def fnExactParseGroupRow : OpenClaim := { program := "ytmgkalljgglabaa", sum := "07f086f1850e5e13527ebf551c61e656fa87d20953560aa2a53cda12ab2c5003", func := "loop.example/g01260/laws.FnExactParseGroup", spec := "fnExactParseGroup", unfollowed := true, recurses := true, apart := false }
def FnExactParseGroupSaid : Prop := fnExactParseGroupRow.holds Try.pinned (OpenSpec.ofChange fnExactParseGroupSpec)

/-- ITS FALSE NEIGHBOUR: 'it returns false'. Refute it at one input. -/
def fnExactParseGroupWrong : ChangeSpec := { name := "fnExactParseGroup", fn := fun _ => fun
  | [d1, d2] => { results := [.lit (.bool false)], args := [d1, d2] }
  | _ => none }
def FnExactParseGroupWrongFalsely : Prop := fnExactParseGroupRow.holds Try.pinned (OpenSpec.ofChange fnExactParseGroupWrong)

/-- 'laws.FnExactInverseWord': WHATEVER THE INPUT: true; the input reads as it did. -/
def fnExactInverseWordSpec : ChangeSpec := { name := "fnExactInverseWord", fn := fun _ => fun
  | [d1, d2] => { results := [.lit (.bool true)], args := [d1, d2] }
  | _ => none }
def fnExactInverseWordRow : OpenClaim := { program := "ytmgkalljgglabaa", sum := "07f086f1850e5e13527ebf551c61e656fa87d20953560aa2a53cda12ab2c5003", func := "loop.example/g01260/laws.FnExactInverseWord", spec := "fnExactInverseWord", unfollowed := true, recurses := true, apart := false }
def FnExactInverseWordSaid : Prop := fnExactInverseWordRow.holds Try.pinned (OpenSpec.ofChange fnExactInverseWordSpec)

/-- ITS FALSE NEIGHBOUR: 'it returns false'. Refute it at one input. -/
def fnExactInverseWordWrong : ChangeSpec := { name := "fnExactInverseWord", fn := fun _ => fun
  | [d1, d2] => { results := [.lit (.bool false)], args := [d1, d2] }
  | _ => none }
def FnExactInverseWordWrongFalsely : Prop := fnExactInverseWordRow.holds Try.pinned (OpenSpec.ofChange fnExactInverseWordWrong)

/-- 'laws.FnExactPathOfWord': WHATEVER THE INPUT: true; the input reads as it did. -/
def fnExactPathOfWordSpec : ChangeSpec := { name := "fnExactPathOfWord", fn := fun _ => fun
  | [d1, d2] => { results := [.lit (.bool true)], args := [d1, d2] }
  | _ => none }
def fnExactPathOfWordRow : OpenClaim := { program := "ytmgkalljgglabaa", sum := "07f086f1850e5e13527ebf551c61e656fa87d20953560aa2a53cda12ab2c5003", func := "loop.example/g01260/laws.FnExactPathOfWord", spec := "fnExactPathOfWord", unfollowed := true, recurses := true, apart := false }
def FnExactPathOfWordSaid : Prop := fnExactPathOfWordRow.holds Try.pinned (OpenSpec.ofChange fnExactPathOfWordSpec)

/-- ITS FALSE NEIGHBOUR: 'it returns false'. Refute it at one input. -/
def fnExactPathOfWordWrong : ChangeSpec := { name := "fnExactPathOfWord", fn := fun _ => fun
  | [d1, d2] => { results := [.lit (.bool false)], args := [d1, d2] }
  | _ => none }
def FnExactPathOfWordWrongFalsely : Prop := fnExactPathOfWordRow.holds Try.pinned (OpenSpec.ofChange fnExactPathOfWordWrong)

/-- 'laws.FnExactLetterSums': WHATEVER THE INPUT: true; the input reads as it did. -/
def fnExactLetterSumsSpec : ChangeSpec := { name := "fnExactLetterSums", fn := fun _ => fun
  | [d1, d2] => { results := [.lit (.bool true)], args := [d1, d2] }
  | _ => none }
def fnExactLetterSumsRow : OpenClaim := { program := "ytmgkalljgglabaa", sum := "07f086f1850e5e13527ebf551c61e656fa87d20953560aa2a53cda12ab2c5003", func := "loop.example/g01260/laws.FnExactLetterSums", spec := "fnExactLetterSums", unfollowed := true, recurses := true, apart := false }
def FnExactLetterSumsSaid : Prop := fnExactLetterSumsRow.holds Try.pinned (OpenSpec.ofChange fnExactLetterSumsSpec)

/-- ITS FALSE NEIGHBOUR: 'it returns false'. Refute it at one input. -/
def fnExactLetterSumsWrong : ChangeSpec := { name := "fnExactLetterSums", fn := fun _ => fun
  | [d1, d2] => { results := [.lit (.bool false)], args := [d1, d2] }
  | _ => none }
def FnExactLetterSumsWrongFalsely : Prop := fnExactLetterSumsRow.holds Try.pinned (OpenSpec.ofChange fnExactLetterSumsWrong)

/-- 'laws.FnExactMultiplyWords': WHATEVER THE INPUT: true; the input reads as it did. -/
def fnExactMultiplyWordsSpec : ChangeSpec := { name := "fnExactMultiplyWords", fn := fun _ => fun
  | [d1, d2, d3] => { results := [.lit (.bool true)], args := [d1, d2, d3] }
  | _ => none }
def fnExactMultiplyWordsRow : OpenClaim := { program := "ytmgkalljgglabaa", sum := "07f086f1850e5e13527ebf551c61e656fa87d20953560aa2a53cda12ab2c5003", func := "loop.example/g01260/laws.FnExactMultiplyWords", spec := "fnExactMultiplyWords", unfollowed := true, recurses := true, apart := false }
def FnExactMultiplyWordsSaid : Prop := fnExactMultiplyWordsRow.holds Try.pinned (OpenSpec.ofChange fnExactMultiplyWordsSpec)

/-- ITS FALSE NEIGHBOUR: 'it returns false'. Refute it at one input. -/
def fnExactMultiplyWordsWrong : ChangeSpec := { name := "fnExactMultiplyWords", fn := fun _ => fun
  | [d1, d2, d3] => { results := [.lit (.bool false)], args := [d1, d2, d3] }
  | _ => none }
def FnExactMultiplyWordsWrongFalsely : Prop := fnExactMultiplyWordsRow.holds Try.pinned (OpenSpec.ofChange fnExactMultiplyWordsWrong)

/-- 'laws.FnExactCommutatorWord': WHATEVER THE INPUT: true; the input reads as it did. -/
def fnExactCommutatorWordSpec : ChangeSpec := { name := "fnExactCommutatorWord", fn := fun _ => fun
  | [d1, d2, d3] => { results := [.lit (.bool true)], args := [d1, d2, d3] }
  | _ => none }
def fnExactCommutatorWordRow : OpenClaim := { program := "ytmgkalljgglabaa", sum := "07f086f1850e5e13527ebf551c61e656fa87d20953560aa2a53cda12ab2c5003", func := "loop.example/g01260/laws.FnExactCommutatorWord", spec := "fnExactCommutatorWord", unfollowed := true, recurses := true, apart := false }
def FnExactCommutatorWordSaid : Prop := fnExactCommutatorWordRow.holds Try.pinned (OpenSpec.ofChange fnExactCommutatorWordSpec)

/-- ITS FALSE NEIGHBOUR: 'it returns false'. Refute it at one input. -/
def fnExactCommutatorWordWrong : ChangeSpec := { name := "fnExactCommutatorWord", fn := fun _ => fun
  | [d1, d2, d3] => { results := [.lit (.bool false)], args := [d1, d2, d3] }
  | _ => none }
def FnExactCommutatorWordWrongFalsely : Prop := fnExactCommutatorWordRow.holds Try.pinned (OpenSpec.ofChange fnExactCommutatorWordWrong)

/-- 'laws.FnExactDifferencesOf': WHATEVER THE INPUT: true; the input reads as it did. -/
def fnExactDifferencesOfSpec : ChangeSpec := { name := "fnExactDifferencesOf", fn := fun _ => fun
  | [d] => { results := [.lit (.bool true)], args := [d] }
  | _ => none }
def fnExactDifferencesOfRow : OpenClaim := { program := "ytmgkalljgglabaa", sum := "07f086f1850e5e13527ebf551c61e656fa87d20953560aa2a53cda12ab2c5003", func := "loop.example/g01260/laws.FnExactDifferencesOf", spec := "fnExactDifferencesOf", unfollowed := true, recurses := true, apart := false }
def FnExactDifferencesOfSaid : Prop := fnExactDifferencesOfRow.holds Try.pinned (OpenSpec.ofChange fnExactDifferencesOfSpec)

/-- ITS FALSE NEIGHBOUR: 'it returns false'. Refute it at one input. -/
def fnExactDifferencesOfWrong : ChangeSpec := { name := "fnExactDifferencesOf", fn := fun _ => fun
  | [d] => { results := [.lit (.bool false)], args := [d] }
  | _ => none }
def FnExactDifferencesOfWrongFalsely : Prop := fnExactDifferencesOfRow.holds Try.pinned (OpenSpec.ofChange fnExactDifferencesOfWrong)

/-- 'laws.FnExactSumsOf': WHATEVER THE INPUT: true; the input reads as it did. -/
def fnExactSumsOfSpec : ChangeSpec := { name := "fnExactSumsOf", fn := fun _ => fun
  | [d] => { results := [.lit (.bool true)], args := [d] }
  | _ => none }
def fnExactSumsOfRow : OpenClaim := { program := "ytmgkalljgglabaa", sum := "07f086f1850e5e13527ebf551c61e656fa87d20953560aa2a53cda12ab2c5003", func := "loop.example/g01260/laws.FnExactSumsOf", spec := "fnExactSumsOf", unfollowed := true, recurses := true, apart := false }
def FnExactSumsOfSaid : Prop := fnExactSumsOfRow.holds Try.pinned (OpenSpec.ofChange fnExactSumsOfSpec)

/-- ITS FALSE NEIGHBOUR: 'it returns false'. Refute it at one input. -/
def fnExactSumsOfWrong : ChangeSpec := { name := "fnExactSumsOf", fn := fun _ => fun
  | [d] => { results := [.lit (.bool false)], args := [d] }
  | _ => none }
def FnExactSumsOfWrongFalsely : Prop := fnExactSumsOfRow.holds Try.pinned (OpenSpec.ofChange fnExactSumsOfWrong)

/- THE SECOND FORM. 'bulk': how many values and letters a reading holds, each counted each time it is reached (what is shared counts as often as it is met; a slice's spare places count too). A statement '..UptoSaid' is the law's where the arguments, and the package variables that the reading takes, are together of bulk at most 1048576: NARROWER than '..Said'. Prove '..Said' where nothing that the law and all that it calls make is longer than what came in: it says more and counts as full. Else prove '..UptoSaid'. A law counts once. -/
mutual
def uptoBulk {H : Type} : DataW H → Nat
  | .lit (.string bytes) => bytes.length + 1
  | .lit _ => 1
  | .nil => 1
  | .ptr d => uptoBulk d + 1
  | .slice elems spare => uptoBulkAll elems + uptoBulkAll spare + 1
  | .agg parts => uptoBulkAll parts + 1
  | .iface _ d => uptoBulk d + 1
  | .map entries => uptoBulkEntries entries + 1
  | .held _ => 1
def uptoBulkAll {H : Type} : List (DataW H) → Nat
  | [] => 0
  | d :: r => uptoBulk d + uptoBulkAll r
def uptoBulkEntries {H : Type} : List (Lit × DataW H) → Nat
  | [] => 0
  | x :: r => uptoBulkEntry x + uptoBulkEntries r
def uptoBulkEntry {H : Type} : Lit × DataW H → Nat
  | (.string bytes, d) => bytes.length + uptoBulk d + 1
  | (_, d) => uptoBulk d + 1
 end
def uptoSmall : (H : Type) → List (DataW H) → Bool := fun _ ds => decide (uptoBulkAll ds ≤ 1048576)
def OpenSpec.upto (s : _root_.Go.ChangeSpec) : _root_.Go.OpenSpec := { _root_.Go.OpenSpec.ofChange s with cond := some uptoSmall }

/-- 'laws.FnExactIsGroupWord', WHERE WHAT IT READS IS OF BULK AT MOST 1048576: true; the input reads as it did. -/
def fnExactIsGroupWordUptoRow : OpenClaim := { program := "ytmgkalljgglabaa", sum := "07f086f1850e5e13527ebf551c61e656fa87d20953560aa2a53cda12ab2c5003", func := "loop.example/g01260/laws.FnExactIsGroupWord", spec := "fnExactIsGroupWord", unfollowed := true, recurses := true, apart := false, narrowed := true }
def FnExactIsGroupWordUptoSaid : Prop := fnExactIsGroupWordUptoRow.holds Try.pinned (OpenSpec.upto fnExactIsGroupWordSpec)

/-- 'laws.FnExactGroupText', WHERE WHAT IT READS IS OF BULK AT MOST 1048576: true; the input reads as it did. -/
def fnExactGroupTextUptoRow : OpenClaim := { program := "ytmgkalljgglabaa", sum := "07f086f1850e5e13527ebf551c61e656fa87d20953560aa2a53cda12ab2c5003", func := "loop.example/g01260/laws.FnExactGroupText", spec := "fnExactGroupText", unfollowed := true, recurses := true, apart := false, narrowed := true }
def FnExactGroupTextUptoSaid : Prop := fnExactGroupTextUptoRow.holds Try.pinned (OpenSpec.upto fnExactGroupTextSpec)

/-- 'laws.FnExactAreEqualInGroup', WHERE WHAT IT READS IS OF BULK AT MOST 1048576: true; the input reads as it did. -/
def fnExactAreEqualInGroupUptoRow : OpenClaim := { program := "ytmgkalljgglabaa", sum := "07f086f1850e5e13527ebf551c61e656fa87d20953560aa2a53cda12ab2c5003", func := "loop.example/g01260/laws.FnExactAreEqualInGroup", spec := "fnExactAreEqualInGroup", unfollowed := true, recurses := true, apart := false, narrowed := true }
def FnExactAreEqualInGroupUptoSaid : Prop := fnExactAreEqualInGroupUptoRow.holds Try.pinned (OpenSpec.upto fnExactAreEqualInGroupSpec)

/-- 'laws.FnExactReduceWord', WHERE WHAT IT READS IS OF BULK AT MOST 1048576: true; the input reads as it did. -/
def fnExactReduceWordUptoRow : OpenClaim := { program := "ytmgkalljgglabaa", sum := "07f086f1850e5e13527ebf551c61e656fa87d20953560aa2a53cda12ab2c5003", func := "loop.example/g01260/laws.FnExactReduceWord", spec := "fnExactReduceWord", unfollowed := true, recurses := true, apart := false, narrowed := true }
def FnExactReduceWordUptoSaid : Prop := fnExactReduceWordUptoRow.holds Try.pinned (OpenSpec.upto fnExactReduceWordSpec)

/-- 'laws.FnExactParseGroup', WHERE WHAT IT READS IS OF BULK AT MOST 1048576: true; the input reads as it did. -/
def fnExactParseGroupUptoRow : OpenClaim := { program := "ytmgkalljgglabaa", sum := "07f086f1850e5e13527ebf551c61e656fa87d20953560aa2a53cda12ab2c5003", func := "loop.example/g01260/laws.FnExactParseGroup", spec := "fnExactParseGroup", unfollowed := true, recurses := true, apart := false, narrowed := true }
def FnExactParseGroupUptoSaid : Prop := fnExactParseGroupUptoRow.holds Try.pinned (OpenSpec.upto fnExactParseGroupSpec)

/-- 'laws.FnExactInverseWord', WHERE WHAT IT READS IS OF BULK AT MOST 1048576: true; the input reads as it did. -/
def fnExactInverseWordUptoRow : OpenClaim := { program := "ytmgkalljgglabaa", sum := "07f086f1850e5e13527ebf551c61e656fa87d20953560aa2a53cda12ab2c5003", func := "loop.example/g01260/laws.FnExactInverseWord", spec := "fnExactInverseWord", unfollowed := true, recurses := true, apart := false, narrowed := true }
def FnExactInverseWordUptoSaid : Prop := fnExactInverseWordUptoRow.holds Try.pinned (OpenSpec.upto fnExactInverseWordSpec)

/-- 'laws.FnExactPathOfWord', WHERE WHAT IT READS IS OF BULK AT MOST 1048576: true; the input reads as it did. -/
def fnExactPathOfWordUptoRow : OpenClaim := { program := "ytmgkalljgglabaa", sum := "07f086f1850e5e13527ebf551c61e656fa87d20953560aa2a53cda12ab2c5003", func := "loop.example/g01260/laws.FnExactPathOfWord", spec := "fnExactPathOfWord", unfollowed := true, recurses := true, apart := false, narrowed := true }
def FnExactPathOfWordUptoSaid : Prop := fnExactPathOfWordUptoRow.holds Try.pinned (OpenSpec.upto fnExactPathOfWordSpec)

/-- 'laws.FnExactLetterSums', WHERE WHAT IT READS IS OF BULK AT MOST 1048576: true; the input reads as it did. -/
def fnExactLetterSumsUptoRow : OpenClaim := { program := "ytmgkalljgglabaa", sum := "07f086f1850e5e13527ebf551c61e656fa87d20953560aa2a53cda12ab2c5003", func := "loop.example/g01260/laws.FnExactLetterSums", spec := "fnExactLetterSums", unfollowed := true, recurses := true, apart := false, narrowed := true }
def FnExactLetterSumsUptoSaid : Prop := fnExactLetterSumsUptoRow.holds Try.pinned (OpenSpec.upto fnExactLetterSumsSpec)

/-- 'laws.FnExactMultiplyWords', WHERE WHAT IT READS IS OF BULK AT MOST 1048576: true; the input reads as it did. -/
def fnExactMultiplyWordsUptoRow : OpenClaim := { program := "ytmgkalljgglabaa", sum := "07f086f1850e5e13527ebf551c61e656fa87d20953560aa2a53cda12ab2c5003", func := "loop.example/g01260/laws.FnExactMultiplyWords", spec := "fnExactMultiplyWords", unfollowed := true, recurses := true, apart := false, narrowed := true }
def FnExactMultiplyWordsUptoSaid : Prop := fnExactMultiplyWordsUptoRow.holds Try.pinned (OpenSpec.upto fnExactMultiplyWordsSpec)

/-- 'laws.FnExactCommutatorWord', WHERE WHAT IT READS IS OF BULK AT MOST 1048576: true; the input reads as it did. -/
def fnExactCommutatorWordUptoRow : OpenClaim := { program := "ytmgkalljgglabaa", sum := "07f086f1850e5e13527ebf551c61e656fa87d20953560aa2a53cda12ab2c5003", func := "loop.example/g01260/laws.FnExactCommutatorWord", spec := "fnExactCommutatorWord", unfollowed := true, recurses := true, apart := false, narrowed := true }
def FnExactCommutatorWordUptoSaid : Prop := fnExactCommutatorWordUptoRow.holds Try.pinned (OpenSpec.upto fnExactCommutatorWordSpec)

/-- 'laws.FnExactDifferencesOf', WHERE WHAT IT READS IS OF BULK AT MOST 1048576: true; the input reads as it did. -/
def fnExactDifferencesOfUptoRow : OpenClaim := { program := "ytmgkalljgglabaa", sum := "07f086f1850e5e13527ebf551c61e656fa87d20953560aa2a53cda12ab2c5003", func := "loop.example/g01260/laws.FnExactDifferencesOf", spec := "fnExactDifferencesOf", unfollowed := true, recurses := true, apart := false, narrowed := true }
def FnExactDifferencesOfUptoSaid : Prop := fnExactDifferencesOfUptoRow.holds Try.pinned (OpenSpec.upto fnExactDifferencesOfSpec)

/-- 'laws.FnExactSumsOf', WHERE WHAT IT READS IS OF BULK AT MOST 1048576: true; the input reads as it did. -/
def fnExactSumsOfUptoRow : OpenClaim := { program := "ytmgkalljgglabaa", sum := "07f086f1850e5e13527ebf551c61e656fa87d20953560aa2a53cda12ab2c5003", func := "loop.example/g01260/laws.FnExactSumsOf", spec := "fnExactSumsOf", unfollowed := true, recurses := true, apart := false, narrowed := true }
def FnExactSumsOfUptoSaid : Prop := fnExactSumsOfUptoRow.holds Try.pinned (OpenSpec.upto fnExactSumsOfSpec)

end Rows
end Go.Proofs.Ytmgkalljgglabaa
