/- Lists of lists of whole numbers that come in: how they are read. -/
import Derived.Test.YtcklefgkbddlhaaPx0
import Derived.Deep.Matrix
namespace Go.Proofs.Ytcklefgkbddlhaa.Hand
open Go.RowKit Go.Deep Go.Proofs.Ytcklefgkbddlhaa.P Go.Proofs.YtcklefgkbddlhaaW.PrintWords Go.Proofs.YtcklefgkbddlhaaW.PrintLast Go.Proofs.YtcklefgkbddlhaaW.PrintMore
set_option linter.unusedVariables false
set_option linter.unusedSimpArgs false

end Go.Proofs.Ytcklefgkbddlhaa.Hand
