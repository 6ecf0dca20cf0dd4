/- Outputs are as many for each order, those that are new are the others, and a queue leaves orders as they are. -/
import Derived.Test.YtfjbgmemjjjjoaaMFnEndsCounts
set_option linter.unusedVariables false
namespace Go.Proofs.Ytfjbgmemjjjjoaa.Pure
open Go.RowKit Go.Proofs.Ytfjbgmemjjjjoaa.PFnEndsCounts Go.Proofs.YtfjbgmemjjjjoaaW.PrintWords Go.Proofs.YtfjbgmemjjjjoaaW.PrintLast Go.Proofs.YtfjbgmemjjjjoaaW.PrintMore
set_option maxRecDepth 100000 in
set_option maxHeartbeats 100000000 in
theorem ed_all_74 : allO (intsTo 7) edOk 6 [4] = true := by decide +kernel
set_option maxRecDepth 100000 in
set_option maxHeartbeats 100000000 in
theorem ed_all_75 : allO (intsTo 7) edOk 6 [5] = true := by decide +kernel
end Go.Proofs.Ytfjbgmemjjjjoaa.Pure
