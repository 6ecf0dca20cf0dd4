/- The first sharing fits with the fewest stacks, greedy ones fit, and sharings are there where stacks are enough. -/
import Derived.Test.YtmgekfoiamjijaaMFnStacks
set_option linter.unusedVariables false
namespace Go.Proofs.Ytmgekfoiamjijaa.Pure
open Go.RowKit Go.Proofs.Ytmgekfoiamjijaa.PFnStacks Go.Proofs.YtmgekfoiamjijaaW.PrintWords Go.Proofs.YtmgekfoiamjijaaW.PrintLast Go.Proofs.YtmgekfoiamjijaaW.PrintMore
set_option maxRecDepth 100000 in
set_option maxHeartbeats 100000000 in
theorem st_all_74 : allO (intsTo 7) stOk 6 [4] = true := by decide +kernel
end Go.Proofs.Ytmgekfoiamjijaa.Pure
