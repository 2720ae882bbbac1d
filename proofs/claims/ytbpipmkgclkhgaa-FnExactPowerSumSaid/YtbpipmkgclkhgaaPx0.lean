/- What a call of each Go function named below comes to is what the plain Lean function beside it says. Made by a program of this session out of the print of the translation; Lean checks it. -/
import Derived.Test.YtbpipmkgclkhgaaProg
import Derived.Below
import Derived.Deep.Draws
import Derived.Deep.AppendLies
import Derived.Maps.AppendAt
import Derived.OwnWalk
import Derived.Laws.BytesArg
import Derived.Laws.MakeOwn
import Derived.Laws.OwnMore
import Derived.Deep.OwnRows
import Derived.Tactics
import Derived.Lib.ConvBytes
import Derived.Laws.Slices
import Derived.WalkKit
import Derived.KernelRfl
import Derived.RowKit3
import Derived.Deep.LoopGhost
import Derived.Deep.QuietTactic
import Derived.BigQuiet
import Derived.WideLaws
import Derived.Deep.DeepCutAuto
import Derived.Deep.CutBlock
import Derived.Deep.RegionHeld3
import Derived.Laws.Rows
import Derived.Lib.AppendStr
import Derived.ArgAppend
import Derived.Laws.IdiomCopy
import Derived.OrdersHeld
import Derived.Laws.BitsLemmas
import Derived.RowKit
import Derived.Test.YtbpipmkgclkhgaaWWords
import Derived.Test.YtbpipmkgclkhgaaWLast
import Derived.Test.YtbpipmkgclkhgaaWTab
import Derived.Test.YtbpipmkgclkhgaaWFour
import Derived.Test.YtbpipmkgclkhgaaWQPut
import Derived.Test.YtbpipmkgclkhgaaWApart
import Derived.Test.YtbpipmkgclkhgaaWArr
import Derived.Test.YtbpipmkgclkhgaaWZeros
import Derived.Test.YtbpipmkgclkhgaaWFoot
import Derived.Test.YtbpipmkgclkhgaaWKept
import Derived.Test.YtbpipmkgclkhgaaWShare
import Derived.Test.YtbpipmkgclkhgaaWN
import Derived.Test.YtbpipmkgclkhgaaWFootNe
import Derived.Test.YtbpipmkgclkhgaaWAt
import Derived.Test.YtbpipmkgclkhgaaWEqStruct
import Derived.Test.YtbpipmkgclkhgaaWRepsOne
import Derived.Test.YtbpipmkgclkhgaaWInv
import Derived.Test.YtbpipmkgclkhgaaWInvWords
import Derived.Test.YtbpipmkgclkhgaaWGuard
import Derived.Test.YtbpipmkgclkhgaaWNEv
import Derived.Test.YtbpipmkgclkhgaaWMore
namespace Go.Proofs.Ytbpipmkgclkhgaa.P
open Go.RowKit Go.Proofs.YtbpipmkgclkhgaaW.PrintWords Go.Proofs.YtbpipmkgclkhgaaW.PrintLast Go.Proofs.YtbpipmkgclkhgaaW.PrintMore
attribute [local go_sem] max2_int min2_int max_two min_two max_three min_three max_four min_four   -- for this text's walks alone
set_option linter.unusedVariables false
set_option linter.unusedSimpArgs false



def errW : Option Int → Value
  | none => .nilIface
  | some c => .iface 0 (.int .i64 c)
theorem errW_none : errW none = .nilIface := rfl
theorem errW_some (c : Int) : errW (some c) = .iface 0 (.int .i64 c) := rfl

theorem info2 : (Try.prog.info? 2).map (fun i => (i.zero, i.size, i.bytes)) = some (some (.int .i64 0), 1, 8) := by kernel_rfl
-- the values' own types

end Go.Proofs.Ytbpipmkgclkhgaa.P
