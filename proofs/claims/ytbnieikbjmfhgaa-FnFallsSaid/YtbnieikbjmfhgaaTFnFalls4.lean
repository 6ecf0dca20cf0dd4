/- An order is layered exactly if its fall sweep is sorted, falls descend, and fall sweeps sort in as many as are told. -/
import Derived.Test.YtbnieikbjmfhgaaMFnFalls
set_option linter.unusedVariables false
namespace Go.Proofs.Ytbnieikbjmfhgaa.Pure
open Go.RowKit Go.Proofs.Ytbnieikbjmfhgaa.PFnFalls Go.Proofs.YtbnieikbjmfhgaaW.PrintWords Go.Proofs.YtbnieikbjmfhgaaW.PrintLast Go.Proofs.YtbnieikbjmfhgaaW.PrintMore
set_option maxRecDepth 100000 in
set_option maxHeartbeats 100000000 in
theorem fa_all_74 : allO (intsTo 7) faOk 6 [4] = true := by decide +kernel
end Go.Proofs.Ytbnieikbjmfhgaa.Pure
