/- slices.IndexFunc and slices.ContainsFunc over whole numbers, and within and upTo: what a call of them comes to. -/
import Derived.Test.YtcklefgkbddlhaaPx0
import Derived.Lib.SlBy
import Derived.Lib.Walk
import Derived.Shelf.Abstract
import Derived.Lib.SliceRun
namespace Go.Proofs.Ytcklefgkbddlhaa.Hand
open Go.RowKit Go.Proofs.YtcklefgkbddlhaaW.PrintWords Go.Proofs.YtcklefgkbddlhaaW.PrintLast Go.Proofs.YtcklefgkbddlhaaW.PrintMore Go.Lib
set_option linter.unusedSimpArgs false
set_option linter.unusedVariables false

end Go.Proofs.Ytcklefgkbddlhaa.Hand
