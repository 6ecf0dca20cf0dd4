/-
  No cell of these rows narrows 'for every input' (looked for: loops, veiled, ifaces, maps, wideKeys, modest, calm, conditions, laid).
  DERIVED. THE GIVEN ROWS OF THIS SEAT. 12 by the template 'for every input the law returns true; each argument reads behind the call as it read before'; 0 by the template 'total and deterministic' (their statements: YtnfcopikfbnheaaTotals.lean).
  GIVEN WITH THE SEED: the statements are not yours to turn. If you find one false, say at which input.
  Laid BY PROGRAM, IN A SANDBOX (cutbox-rows.mjs): the forced cells as the released guide's own fill.sh prints them over the translation 4811a2ce59d9be09… (all of the seat's roots in one cut). By AI agents, Wed Nov 11 2026. No macro, syntax, notation, axiom, sorry.
-/
import Derived.Test.YtnfcopikfbnheaaChecked
import GoSem.Claim
import GoSem.ClaimJoined
import GoSem.ClaimMapViews
import Derived.JoinedTies
import Derived.KernelRfl
namespace Go.Proofs.Ytnfcopikfbnheaa
/- THE CELL 'sum', in the pinned program and in every row, IS THE sha256 OF THE DUMP (.gsa) THAT YtnfcopikfbnheaaProg.lean LOADS. Nothing in Lean hashes anything: it is a label: what it is worth is what the hold of that sum in a sandbox is worth. -/
noncomputable def Try.pinned : Pinned := { name := "ytnfcopikfbnheaa", sum := "4811a2ce59d9be09e3560b21fb233aa1020d3b47788d5d93f53fd22e3b9956c7", checked := Try.checked }
namespace Rows
def none {H : Type} : Left H := { results := [], args := [] }

/-- 'laws.FnExactCountQueueable': WHATEVER THE INPUT: true; the input reads as it did. -/
def fnExactCountQueueableSpec : ChangeSpec := { name := "fnExactCountQueueable", fn := fun _ => fun
  | [d1, d2] => { results := [.lit (.bool true)], args := [d1, d2] }
  | _ => none }
def fnExactCountQueueableRow : OpenClaim := { program := "ytnfcopikfbnheaa", sum := "4811a2ce59d9be09e3560b21fb233aa1020d3b47788d5d93f53fd22e3b9956c7", func := "loop.example/g01286/laws.FnExactCountQueueable", spec := "fnExactCountQueueable", unfollowed := true, recurses := true, apart := false }
def FnExactCountQueueableSaid : Prop := fnExactCountQueueableRow.holds Try.pinned (OpenSpec.ofChange fnExactCountQueueableSpec)

/-- ITS FALSE NEIGHBOUR: 'it returns false'. Refute it at one input. -/
def fnExactCountQueueableWrong : ChangeSpec := { name := "fnExactCountQueueable", fn := fun _ => fun
  | [d1, d2] => { results := [.lit (.bool false)], args := [d1, d2] }
  | _ => none }
def FnExactCountQueueableWrongFalsely : Prop := fnExactCountQueueableRow.holds Try.pinned (OpenSpec.ofChange fnExactCountQueueableWrong)

/-- 'laws.FnExactQueuesOf': WHATEVER THE INPUT: true; the input reads as it did. -/
def fnExactQueuesOfSpec : ChangeSpec := { name := "fnExactQueuesOf", fn := fun _ => fun
  | [d] => { results := [.lit (.bool true)], args := [d] }
  | _ => none }
def fnExactQueuesOfRow : OpenClaim := { program := "ytnfcopikfbnheaa", sum := "4811a2ce59d9be09e3560b21fb233aa1020d3b47788d5d93f53fd22e3b9956c7", func := "loop.example/g01286/laws.FnExactQueuesOf", spec := "fnExactQueuesOf", unfollowed := true, recurses := true, apart := false }
def FnExactQueuesOfSaid : Prop := fnExactQueuesOfRow.holds Try.pinned (OpenSpec.ofChange fnExactQueuesOfSpec)

/-- ITS FALSE NEIGHBOUR: 'it returns false'. Refute it at one input. -/
def fnExactQueuesOfWrong : ChangeSpec := { name := "fnExactQueuesOf", fn := fun _ => fun
  | [d] => { results := [.lit (.bool false)], args := [d] }
  | _ => none }
def FnExactQueuesOfWrongFalsely : Prop := fnExactQueuesOfRow.holds Try.pinned (OpenSpec.ofChange fnExactQueuesOfWrong)

/-- 'laws.FnExactAreRows': WHATEVER THE INPUT: true; the input reads as it did. -/
def fnExactAreRowsSpec : ChangeSpec := { name := "fnExactAreRows", fn := fun _ => fun
  | [d] => { results := [.lit (.bool true)], args := [d] }
  | _ => none }
def fnExactAreRowsRow : OpenClaim := { program := "ytnfcopikfbnheaa", sum := "4811a2ce59d9be09e3560b21fb233aa1020d3b47788d5d93f53fd22e3b9956c7", func := "loop.example/g01286/laws.FnExactAreRows", spec := "fnExactAreRows", apart := false }
def FnExactAreRowsSaid : Prop := fnExactAreRowsRow.holds Try.pinned (OpenSpec.ofChange fnExactAreRowsSpec)

/-- ITS FALSE NEIGHBOUR: 'it returns false'. Refute it at one input. -/
def fnExactAreRowsWrong : ChangeSpec := { name := "fnExactAreRows", fn := fun _ => fun
  | [d] => { results := [.lit (.bool false)], args := [d] }
  | _ => none }
def FnExactAreRowsWrongFalsely : Prop := fnExactAreRowsRow.holds Try.pinned (OpenSpec.ofChange fnExactAreRowsWrong)

/-- 'laws.FnExactRowsOf': WHATEVER THE INPUT: true; the input reads as it did. -/
def fnExactRowsOfSpec : ChangeSpec := { name := "fnExactRowsOf", fn := fun _ => fun
  | [d] => { results := [.lit (.bool true)], args := [d] }
  | _ => none }
def fnExactRowsOfRow : OpenClaim := { program := "ytnfcopikfbnheaa", sum := "4811a2ce59d9be09e3560b21fb233aa1020d3b47788d5d93f53fd22e3b9956c7", func := "loop.example/g01286/laws.FnExactRowsOf", spec := "fnExactRowsOf", unfollowed := true, recurses := true, apart := false }
def FnExactRowsOfSaid : Prop := fnExactRowsOfRow.holds Try.pinned (OpenSpec.ofChange fnExactRowsOfSpec)

/-- ITS FALSE NEIGHBOUR: 'it returns false'. Refute it at one input. -/
def fnExactRowsOfWrong : ChangeSpec := { name := "fnExactRowsOf", fn := fun _ => fun
  | [d] => { results := [.lit (.bool false)], args := [d] }
  | _ => none }
def FnExactRowsOfWrongFalsely : Prop := fnExactRowsOfRow.holds Try.pinned (OpenSpec.ofChange fnExactRowsOfWrong)

/-- 'laws.FnExactTwinRowsOf': WHATEVER THE INPUT: true; the input reads as it did. -/
def fnExactTwinRowsOfSpec : ChangeSpec := { name := "fnExactTwinRowsOf", fn := fun _ => fun
  | [d] => { results := [.lit (.bool true)], args := [d] }
  | _ => none }
def fnExactTwinRowsOfRow : OpenClaim := { program := "ytnfcopikfbnheaa", sum := "4811a2ce59d9be09e3560b21fb233aa1020d3b47788d5d93f53fd22e3b9956c7", func := "loop.example/g01286/laws.FnExactTwinRowsOf", spec := "fnExactTwinRowsOf", unfollowed := true, recurses := true, apart := false }
def FnExactTwinRowsOfSaid : Prop := fnExactTwinRowsOfRow.holds Try.pinned (OpenSpec.ofChange fnExactTwinRowsOfSpec)

/-- ITS FALSE NEIGHBOUR: 'it returns false'. Refute it at one input. -/
def fnExactTwinRowsOfWrong : ChangeSpec := { name := "fnExactTwinRowsOf", fn := fun _ => fun
  | [d] => { results := [.lit (.bool false)], args := [d] }
  | _ => none }
def FnExactTwinRowsOfWrongFalsely : Prop := fnExactTwinRowsOfRow.holds Try.pinned (OpenSpec.ofChange fnExactTwinRowsOfWrong)

/-- 'laws.FnExactLongestRise': WHATEVER THE INPUT: true; the input reads as it did. -/
def fnExactLongestRiseSpec : ChangeSpec := { name := "fnExactLongestRise", fn := fun _ => fun
  | [d] => { results := [.lit (.bool true)], args := [d] }
  | _ => none }
def fnExactLongestRiseRow : OpenClaim := { program := "ytnfcopikfbnheaa", sum := "4811a2ce59d9be09e3560b21fb233aa1020d3b47788d5d93f53fd22e3b9956c7", func := "loop.example/g01286/laws.FnExactLongestRise", spec := "fnExactLongestRise", unfollowed := true, recurses := true, apart := false }
def FnExactLongestRiseSaid : Prop := fnExactLongestRiseRow.holds Try.pinned (OpenSpec.ofChange fnExactLongestRiseSpec)

/-- ITS FALSE NEIGHBOUR: 'it returns false'. Refute it at one input. -/
def fnExactLongestRiseWrong : ChangeSpec := { name := "fnExactLongestRise", fn := fun _ => fun
  | [d] => { results := [.lit (.bool false)], args := [d] }
  | _ => none }
def FnExactLongestRiseWrongFalsely : Prop := fnExactLongestRiseRow.holds Try.pinned (OpenSpec.ofChange fnExactLongestRiseWrong)

/-- 'laws.FnExactLongestFall': WHATEVER THE INPUT: true; the input reads as it did. -/
def fnExactLongestFallSpec : ChangeSpec := { name := "fnExactLongestFall", fn := fun _ => fun
  | [d] => { results := [.lit (.bool true)], args := [d] }
  | _ => none }
def fnExactLongestFallRow : OpenClaim := { program := "ytnfcopikfbnheaa", sum := "4811a2ce59d9be09e3560b21fb233aa1020d3b47788d5d93f53fd22e3b9956c7", func := "loop.example/g01286/laws.FnExactLongestFall", spec := "fnExactLongestFall", unfollowed := true, recurses := true, apart := false }
def FnExactLongestFallSaid : Prop := fnExactLongestFallRow.holds Try.pinned (OpenSpec.ofChange fnExactLongestFallSpec)

/-- ITS FALSE NEIGHBOUR: 'it returns false'. Refute it at one input. -/
def fnExactLongestFallWrong : ChangeSpec := { name := "fnExactLongestFall", fn := fun _ => fun
  | [d] => { results := [.lit (.bool false)], args := [d] }
  | _ => none }
def FnExactLongestFallWrongFalsely : Prop := fnExactLongestFallRow.holds Try.pinned (OpenSpec.ofChange fnExactLongestFallWrong)

/-- 'laws.FnExactOrderOfRows': WHATEVER THE INPUT: true; the input reads as it did. -/
def fnExactOrderOfRowsSpec : ChangeSpec := { name := "fnExactOrderOfRows", fn := fun _ => fun
  | [d1, d2] => { results := [.lit (.bool true)], args := [d1, d2] }
  | _ => none }
def fnExactOrderOfRowsRow : OpenClaim := { program := "ytnfcopikfbnheaa", sum := "4811a2ce59d9be09e3560b21fb233aa1020d3b47788d5d93f53fd22e3b9956c7", func := "loop.example/g01286/laws.FnExactOrderOfRows", spec := "fnExactOrderOfRows", unfollowed := true, recurses := true, apart := false }
def FnExactOrderOfRowsSaid : Prop := fnExactOrderOfRowsRow.holds Try.pinned (OpenSpec.ofChange fnExactOrderOfRowsSpec)

/-- ITS FALSE NEIGHBOUR: 'it returns false'. Refute it at one input. -/
def fnExactOrderOfRowsWrong : ChangeSpec := { name := "fnExactOrderOfRows", fn := fun _ => fun
  | [d1, d2] => { results := [.lit (.bool false)], args := [d1, d2] }
  | _ => none }
def FnExactOrderOfRowsWrongFalsely : Prop := fnExactOrderOfRowsRow.holds Try.pinned (OpenSpec.ofChange fnExactOrderOfRowsWrong)

/-- 'laws.FnExactMergePass': WHATEVER THE INPUT: true; the input reads as it did. -/
def fnExactMergePassSpec : ChangeSpec := { name := "fnExactMergePass", fn := fun _ => fun
  | [d] => { results := [.lit (.bool true)], args := [d] }
  | _ => none }
def fnExactMergePassRow : OpenClaim := { program := "ytnfcopikfbnheaa", sum := "4811a2ce59d9be09e3560b21fb233aa1020d3b47788d5d93f53fd22e3b9956c7", func := "loop.example/g01286/laws.FnExactMergePass", spec := "fnExactMergePass", unfollowed := true, recurses := true, apart := false }
def FnExactMergePassSaid : Prop := fnExactMergePassRow.holds Try.pinned (OpenSpec.ofChange fnExactMergePassSpec)

/-- ITS FALSE NEIGHBOUR: 'it returns false'. Refute it at one input. -/
def fnExactMergePassWrong : ChangeSpec := { name := "fnExactMergePass", fn := fun _ => fun
  | [d] => { results := [.lit (.bool false)], args := [d] }
  | _ => none }
def FnExactMergePassWrongFalsely : Prop := fnExactMergePassRow.holds Try.pinned (OpenSpec.ofChange fnExactMergePassWrong)

/-- 'laws.FnExactCountPasses': WHATEVER THE INPUT: true; the input reads as it did. -/
def fnExactCountPassesSpec : ChangeSpec := { name := "fnExactCountPasses", fn := fun _ => fun
  | [d] => { results := [.lit (.bool true)], args := [d] }
  | _ => none }
def fnExactCountPassesRow : OpenClaim := { program := "ytnfcopikfbnheaa", sum := "4811a2ce59d9be09e3560b21fb233aa1020d3b47788d5d93f53fd22e3b9956c7", func := "loop.example/g01286/laws.FnExactCountPasses", spec := "fnExactCountPasses", unfollowed := true, recurses := true, apart := false }
def FnExactCountPassesSaid : Prop := fnExactCountPassesRow.holds Try.pinned (OpenSpec.ofChange fnExactCountPassesSpec)

/-- ITS FALSE NEIGHBOUR: 'it returns false'. Refute it at one input. -/
def fnExactCountPassesWrong : ChangeSpec := { name := "fnExactCountPasses", fn := fun _ => fun
  | [d] => { results := [.lit (.bool false)], args := [d] }
  | _ => none }
def FnExactCountPassesWrongFalsely : Prop := fnExactCountPassesRow.holds Try.pinned (OpenSpec.ofChange fnExactCountPassesWrong)

/-- 'laws.FnExactMeanRuns': WHATEVER THE INPUT: true; the input reads as it did. -/
def fnExactMeanRunsSpec : ChangeSpec := { name := "fnExactMeanRuns", fn := fun _ => fun
  | [d] => { results := [.lit (.bool true)], args := [d] }
  | _ => none }
def fnExactMeanRunsRow : OpenClaim := { program := "ytnfcopikfbnheaa", sum := "4811a2ce59d9be09e3560b21fb233aa1020d3b47788d5d93f53fd22e3b9956c7", func := "loop.example/g01286/laws.FnExactMeanRuns", spec := "fnExactMeanRuns", unfollowed := true, recurses := true, apart := false }
def FnExactMeanRunsSaid : Prop := fnExactMeanRunsRow.holds Try.pinned (OpenSpec.ofChange fnExactMeanRunsSpec)

/-- ITS FALSE NEIGHBOUR: 'it returns false'. Refute it at one input. -/
def fnExactMeanRunsWrong : ChangeSpec := { name := "fnExactMeanRuns", fn := fun _ => fun
  | [d] => { results := [.lit (.bool false)], args := [d] }
  | _ => none }
def FnExactMeanRunsWrongFalsely : Prop := fnExactMeanRunsRow.holds Try.pinned (OpenSpec.ofChange fnExactMeanRunsWrong)

/-- 'laws.FnExactChanceQueues': WHATEVER THE INPUT: true; the input reads as it did. -/
def fnExactChanceQueuesSpec : ChangeSpec := { name := "fnExactChanceQueues", fn := fun _ => fun
  | [d1, d2] => { results := [.lit (.bool true)], args := [d1, d2] }
  | _ => none }
def fnExactChanceQueuesRow : OpenClaim := { program := "ytnfcopikfbnheaa", sum := "4811a2ce59d9be09e3560b21fb233aa1020d3b47788d5d93f53fd22e3b9956c7", func := "loop.example/g01286/laws.FnExactChanceQueues", spec := "fnExactChanceQueues", unfollowed := true, recurses := true, apart := false }
def FnExactChanceQueuesSaid : Prop := fnExactChanceQueuesRow.holds Try.pinned (OpenSpec.ofChange fnExactChanceQueuesSpec)

/-- ITS FALSE NEIGHBOUR: 'it returns false'. Refute it at one input. -/
def fnExactChanceQueuesWrong : ChangeSpec := { name := "fnExactChanceQueues", fn := fun _ => fun
  | [d1, d2] => { results := [.lit (.bool false)], args := [d1, d2] }
  | _ => none }
def FnExactChanceQueuesWrongFalsely : Prop := fnExactChanceQueuesRow.holds Try.pinned (OpenSpec.ofChange fnExactChanceQueuesWrong)

/- THE SECOND FORM. 'bulk': how many values and letters a reading holds, each counted each time it is reached (what is shared counts as often as it is met; a slice's spare places count too). A statement '..UptoSaid' is the law's where the arguments, and the package variables that the reading takes, are together of bulk at most 1048576: NARROWER than '..Said'. Prove '..Said' where nothing that the law and all that it calls make is longer than what came in: it says more and counts as full. Else prove '..UptoSaid'. A law counts once. -/
mutual
def uptoBulk {H : Type} : DataW H → Nat
  | .lit (.string bytes) => bytes.length + 1
  | .lit _ => 1
  | .nil => 1
  | .ptr d => uptoBulk d + 1
  | .slice elems spare => uptoBulkAll elems + uptoBulkAll spare + 1
  | .agg parts => uptoBulkAll parts + 1
  | .iface _ d => uptoBulk d + 1
  | .map entries => uptoBulkEntries entries + 1
  | .held _ => 1
def uptoBulkAll {H : Type} : List (DataW H) → Nat
  | [] => 0
  | d :: r => uptoBulk d + uptoBulkAll r
def uptoBulkEntries {H : Type} : List (Lit × DataW H) → Nat
  | [] => 0
  | x :: r => uptoBulkEntry x + uptoBulkEntries r
def uptoBulkEntry {H : Type} : Lit × DataW H → Nat
  | (.string bytes, d) => bytes.length + uptoBulk d + 1
  | (_, d) => uptoBulk d + 1
 end
def uptoSmall : (H : Type) → List (DataW H) → Bool := fun _ ds => decide (uptoBulkAll ds ≤ 1048576)
def OpenSpec.upto (s : _root_.Go.ChangeSpec) : _root_.Go.OpenSpec := { _root_.Go.OpenSpec.ofChange s with cond := some uptoSmall }

/-- 'laws.FnExactCountQueueable', WHERE WHAT IT READS IS OF BULK AT MOST 1048576: true; the input reads as it did. -/
def fnExactCountQueueableUptoRow : OpenClaim := { program := "ytnfcopikfbnheaa", sum := "4811a2ce59d9be09e3560b21fb233aa1020d3b47788d5d93f53fd22e3b9956c7", func := "loop.example/g01286/laws.FnExactCountQueueable", spec := "fnExactCountQueueable", unfollowed := true, recurses := true, apart := false, narrowed := true }
def FnExactCountQueueableUptoSaid : Prop := fnExactCountQueueableUptoRow.holds Try.pinned (OpenSpec.upto fnExactCountQueueableSpec)

/-- 'laws.FnExactQueuesOf', WHERE WHAT IT READS IS OF BULK AT MOST 1048576: true; the input reads as it did. -/
def fnExactQueuesOfUptoRow : OpenClaim := { program := "ytnfcopikfbnheaa", sum := "4811a2ce59d9be09e3560b21fb233aa1020d3b47788d5d93f53fd22e3b9956c7", func := "loop.example/g01286/laws.FnExactQueuesOf", spec := "fnExactQueuesOf", unfollowed := true, recurses := true, apart := false, narrowed := true }
def FnExactQueuesOfUptoSaid : Prop := fnExactQueuesOfUptoRow.holds Try.pinned (OpenSpec.upto fnExactQueuesOfSpec)

/-- 'laws.FnExactAreRows', WHERE WHAT IT READS IS OF BULK AT MOST 1048576: true; the input reads as it did. -/
def fnExactAreRowsUptoRow : OpenClaim := { program := "ytnfcopikfbnheaa", sum := "4811a2ce59d9be09e3560b21fb233aa1020d3b47788d5d93f53fd22e3b9956c7", func := "loop.example/g01286/laws.FnExactAreRows", spec := "fnExactAreRows", apart := false, narrowed := true }
def FnExactAreRowsUptoSaid : Prop := fnExactAreRowsUptoRow.holds Try.pinned (OpenSpec.upto fnExactAreRowsSpec)

/-- 'laws.FnExactRowsOf', WHERE WHAT IT READS IS OF BULK AT MOST 1048576: true; the input reads as it did. -/
def fnExactRowsOfUptoRow : OpenClaim := { program := "ytnfcopikfbnheaa", sum := "4811a2ce59d9be09e3560b21fb233aa1020d3b47788d5d93f53fd22e3b9956c7", func := "loop.example/g01286/laws.FnExactRowsOf", spec := "fnExactRowsOf", unfollowed := true, recurses := true, apart := false, narrowed := true }
def FnExactRowsOfUptoSaid : Prop := fnExactRowsOfUptoRow.holds Try.pinned (OpenSpec.upto fnExactRowsOfSpec)

/-- 'laws.FnExactTwinRowsOf', WHERE WHAT IT READS IS OF BULK AT MOST 1048576: true; the input reads as it did. -/
def fnExactTwinRowsOfUptoRow : OpenClaim := { program := "ytnfcopikfbnheaa", sum := "4811a2ce59d9be09e3560b21fb233aa1020d3b47788d5d93f53fd22e3b9956c7", func := "loop.example/g01286/laws.FnExactTwinRowsOf", spec := "fnExactTwinRowsOf", unfollowed := true, recurses := true, apart := false, narrowed := true }
def FnExactTwinRowsOfUptoSaid : Prop := fnExactTwinRowsOfUptoRow.holds Try.pinned (OpenSpec.upto fnExactTwinRowsOfSpec)

/-- 'laws.FnExactLongestRise', WHERE WHAT IT READS IS OF BULK AT MOST 1048576: true; the input reads as it did. -/
def fnExactLongestRiseUptoRow : OpenClaim := { program := "ytnfcopikfbnheaa", sum := "4811a2ce59d9be09e3560b21fb233aa1020d3b47788d5d93f53fd22e3b9956c7", func := "loop.example/g01286/laws.FnExactLongestRise", spec := "fnExactLongestRise", unfollowed := true, recurses := true, apart := false, narrowed := true }
def FnExactLongestRiseUptoSaid : Prop := fnExactLongestRiseUptoRow.holds Try.pinned (OpenSpec.upto fnExactLongestRiseSpec)

/-- 'laws.FnExactLongestFall', WHERE WHAT IT READS IS OF BULK AT MOST 1048576: true; the input reads as it did. -/
def fnExactLongestFallUptoRow : OpenClaim := { program := "ytnfcopikfbnheaa", sum := "4811a2ce59d9be09e3560b21fb233aa1020d3b47788d5d93f53fd22e3b9956c7", func := "loop.example/g01286/laws.FnExactLongestFall", spec := "fnExactLongestFall", unfollowed := true, recurses := true, apart := false, narrowed := true }
def FnExactLongestFallUptoSaid : Prop := fnExactLongestFallUptoRow.holds Try.pinned (OpenSpec.upto fnExactLongestFallSpec)

/-- 'laws.FnExactOrderOfRows', WHERE WHAT IT READS IS OF BULK AT MOST 1048576: true; the input reads as it did. -/
def fnExactOrderOfRowsUptoRow : OpenClaim := { program := "ytnfcopikfbnheaa", sum := "4811a2ce59d9be09e3560b21fb233aa1020d3b47788d5d93f53fd22e3b9956c7", func := "loop.example/g01286/laws.FnExactOrderOfRows", spec := "fnExactOrderOfRows", unfollowed := true, recurses := true, apart := false, narrowed := true }
def FnExactOrderOfRowsUptoSaid : Prop := fnExactOrderOfRowsUptoRow.holds Try.pinned (OpenSpec.upto fnExactOrderOfRowsSpec)

/-- 'laws.FnExactMergePass', WHERE WHAT IT READS IS OF BULK AT MOST 1048576: true; the input reads as it did. -/
def fnExactMergePassUptoRow : OpenClaim := { program := "ytnfcopikfbnheaa", sum := "4811a2ce59d9be09e3560b21fb233aa1020d3b47788d5d93f53fd22e3b9956c7", func := "loop.example/g01286/laws.FnExactMergePass", spec := "fnExactMergePass", unfollowed := true, recurses := true, apart := false, narrowed := true }
def FnExactMergePassUptoSaid : Prop := fnExactMergePassUptoRow.holds Try.pinned (OpenSpec.upto fnExactMergePassSpec)

/-- 'laws.FnExactCountPasses', WHERE WHAT IT READS IS OF BULK AT MOST 1048576: true; the input reads as it did. -/
def fnExactCountPassesUptoRow : OpenClaim := { program := "ytnfcopikfbnheaa", sum := "4811a2ce59d9be09e3560b21fb233aa1020d3b47788d5d93f53fd22e3b9956c7", func := "loop.example/g01286/laws.FnExactCountPasses", spec := "fnExactCountPasses", unfollowed := true, recurses := true, apart := false, narrowed := true }
def FnExactCountPassesUptoSaid : Prop := fnExactCountPassesUptoRow.holds Try.pinned (OpenSpec.upto fnExactCountPassesSpec)

/-- 'laws.FnExactMeanRuns', WHERE WHAT IT READS IS OF BULK AT MOST 1048576: true; the input reads as it did. -/
def fnExactMeanRunsUptoRow : OpenClaim := { program := "ytnfcopikfbnheaa", sum := "4811a2ce59d9be09e3560b21fb233aa1020d3b47788d5d93f53fd22e3b9956c7", func := "loop.example/g01286/laws.FnExactMeanRuns", spec := "fnExactMeanRuns", unfollowed := true, recurses := true, apart := false, narrowed := true }
def FnExactMeanRunsUptoSaid : Prop := fnExactMeanRunsUptoRow.holds Try.pinned (OpenSpec.upto fnExactMeanRunsSpec)

/-- 'laws.FnExactChanceQueues', WHERE WHAT IT READS IS OF BULK AT MOST 1048576: true; the input reads as it did. -/
def fnExactChanceQueuesUptoRow : OpenClaim := { program := "ytnfcopikfbnheaa", sum := "4811a2ce59d9be09e3560b21fb233aa1020d3b47788d5d93f53fd22e3b9956c7", func := "loop.example/g01286/laws.FnExactChanceQueues", spec := "fnExactChanceQueues", unfollowed := true, recurses := true, apart := false, narrowed := true }
def FnExactChanceQueuesUptoSaid : Prop := fnExactChanceQueuesUptoRow.holds Try.pinned (OpenSpec.upto fnExactChanceQueuesSpec)

end Rows
end Go.Proofs.Ytnfcopikfbnheaa
