/- Cuts undo themselves, are told by ranks, and do what their words do. -/
import Derived.Test.YtbnieikbjmfhgaaMFnCuts
set_option linter.unusedVariables false
namespace Go.Proofs.Ytbnieikbjmfhgaa.Pure
open Go.RowKit Go.Proofs.Ytbnieikbjmfhgaa.PFnCuts Go.Proofs.YtbnieikbjmfhgaaW.PrintWords Go.Proofs.YtbnieikbjmfhgaaW.PrintLast Go.Proofs.YtbnieikbjmfhgaaW.PrintMore
set_option maxRecDepth 100000 in
set_option maxHeartbeats 100000000 in
theorem ca_all : ∀ n ∈ [1, 2, 3, 4, 5, 6, 7], ∀ k ∈ List.range (2 ^ (n - 1)), caOk n k = true := by decide +kernel
end Go.Proofs.Ytbnieikbjmfhgaa.Pure
