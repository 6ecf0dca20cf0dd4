/- Cuts undo themselves, are told by ranks, and do what their words do. -/
import Derived.Test.YtbnieikbjmfhgaaMFnCuts
set_option linter.unusedVariables false
namespace Go.Proofs.Ytbnieikbjmfhgaa.Pure
open Go.RowKit Go.Proofs.Ytbnieikbjmfhgaa.PFnCuts Go.Proofs.YtbnieikbjmfhgaaW.PrintWords Go.Proofs.YtbnieikbjmfhgaaW.PrintLast Go.Proofs.YtbnieikbjmfhgaaW.PrintMore
set_option maxRecDepth 100000 in
set_option maxHeartbeats 100000000 in
theorem rc_7 : ∀ l ∈ cutsF 8 7, rcOk 7 l = true := by decide +kernel
end Go.Proofs.Ytbnieikbjmfhgaa.Pure
