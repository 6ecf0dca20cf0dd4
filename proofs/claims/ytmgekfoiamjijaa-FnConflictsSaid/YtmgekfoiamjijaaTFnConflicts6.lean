/- Sharings fit where no places in conflict share a stack, just when all numbers come out sorted. -/
import Derived.Test.YtmgekfoiamjijaaMFnConflicts
set_option linter.unusedVariables false
namespace Go.Proofs.Ytmgekfoiamjijaa.Pure
open Go.RowKit Go.Proofs.Ytmgekfoiamjijaa.PFnConflicts Go.Proofs.YtmgekfoiamjijaaW.PrintWords Go.Proofs.YtmgekfoiamjijaaW.PrintLast Go.Proofs.YtmgekfoiamjijaaW.PrintMore
set_option maxRecDepth 100000 in
set_option maxHeartbeats 100000000 in
theorem cf_all_77 : allO (intsTo 7) contOk 6 [7] = true := by decide +kernel
end Go.Proofs.Ytmgekfoiamjijaa.Pure
