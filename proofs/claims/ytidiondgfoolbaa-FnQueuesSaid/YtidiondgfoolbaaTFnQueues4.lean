/- The fewest queues are the longest fall, and ways into queues are there where queues are enough. -/
import Derived.Test.YtidiondgfoolbaaMFnQueues
set_option linter.unusedVariables false
namespace Go.Proofs.Ytidiondgfoolbaa.Pure
open Go.RowKit Go.Proofs.Ytidiondgfoolbaa.PFnQueues Go.Proofs.YtidiondgfoolbaaW.PrintWords Go.Proofs.YtidiondgfoolbaaW.PrintLast Go.Proofs.YtidiondgfoolbaaW.PrintMore
set_option maxRecDepth 100000 in
set_option maxHeartbeats 100000000 in
theorem fq_all_74 : allO (intsTo 7) fqOk 6 [4] = true := by decide +kernel
end Go.Proofs.Ytidiondgfoolbaa.Pure
