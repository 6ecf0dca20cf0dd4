/-
  No cell of these rows narrows 'for every input' (looked for: loops, veiled, ifaces, maps, wideKeys, modest, calm, conditions, laid).
  DERIVED. THE GIVEN ROWS OF THIS SEAT. 12 by the template 'for every input the law returns true; each argument reads behind the call as it read before'; 0 by the template 'total and deterministic' (their statements: YtfoededcgeemcaaTotals.lean).
  GIVEN WITH THE SEED: the statements are not yours to turn. If you find one false, say at which input.
  Laid BY PROGRAM, IN A SANDBOX (cutbox-rows.mjs): the forced cells as the released guide's own fill.sh prints them over the translation 880dcb8c13ab48f5… (all of the seat's roots in one cut). By AI agents, Wed Nov 11 2026. No macro, syntax, notation, axiom, sorry.
-/
import Derived.Test.YtfoededcgeemcaaChecked
import GoSem.Claim
import GoSem.ClaimJoined
import GoSem.ClaimMapViews
import Derived.JoinedTies
import Derived.KernelRfl
namespace Go.Proofs.Ytfoededcgeemcaa
/- THE CELL 'sum', in the pinned program and in every row, IS THE sha256 OF THE DUMP (.gsa) THAT YtfoededcgeemcaaProg.lean LOADS. Nothing in Lean hashes anything: it is a label: what it is worth is what the hold of that sum in a sandbox is worth. -/
noncomputable def Try.pinned : Pinned := { name := "ytfoededcgeemcaa", sum := "880dcb8c13ab48f5c6a92ba4c8404ee622da49ef46e4465136b59243450d801f", checked := Try.checked }
namespace Rows
def none {H : Type} : Left H := { results := [], args := [] }

/-- 'laws.FnExactIsEndsWord': WHATEVER THE INPUT: true; the input reads as it did. -/
def fnExactIsEndsWordSpec : ChangeSpec := { name := "fnExactIsEndsWord", fn := fun _ => fun
  | [d] => { results := [.lit (.bool true)], args := [d] }
  | _ => none }
def fnExactIsEndsWordRow : OpenClaim := { program := "ytfoededcgeemcaa", sum := "880dcb8c13ab48f5c6a92ba4c8404ee622da49ef46e4465136b59243450d801f", func := "loop.example/g01286/laws.FnExactIsEndsWord", spec := "fnExactIsEndsWord", apart := false }
def FnExactIsEndsWordSaid : Prop := fnExactIsEndsWordRow.holds Try.pinned (OpenSpec.ofChange fnExactIsEndsWordSpec)

/-- ITS FALSE NEIGHBOUR: 'it returns false'. Refute it at one input. -/
def fnExactIsEndsWordWrong : ChangeSpec := { name := "fnExactIsEndsWord", fn := fun _ => fun
  | [d] => { results := [.lit (.bool false)], args := [d] }
  | _ => none }
def FnExactIsEndsWordWrongFalsely : Prop := fnExactIsEndsWordRow.holds Try.pinned (OpenSpec.ofChange fnExactIsEndsWordWrong)

/-- 'laws.FnExactAreCuts': WHATEVER THE INPUT: true; the input reads as it did. -/
def fnExactAreCutsSpec : ChangeSpec := { name := "fnExactAreCuts", fn := fun _ => fun
  | [d1, d2] => { results := [.lit (.bool true)], args := [d1, d2] }
  | _ => none }
def fnExactAreCutsRow : OpenClaim := { program := "ytfoededcgeemcaa", sum := "880dcb8c13ab48f5c6a92ba4c8404ee622da49ef46e4465136b59243450d801f", func := "loop.example/g01286/laws.FnExactAreCuts", spec := "fnExactAreCuts", apart := false }
def FnExactAreCutsSaid : Prop := fnExactAreCutsRow.holds Try.pinned (OpenSpec.ofChange fnExactAreCutsSpec)

/-- ITS FALSE NEIGHBOUR: 'it returns false'. Refute it at one input. -/
def fnExactAreCutsWrong : ChangeSpec := { name := "fnExactAreCuts", fn := fun _ => fun
  | [d1, d2] => { results := [.lit (.bool false)], args := [d1, d2] }
  | _ => none }
def FnExactAreCutsWrongFalsely : Prop := fnExactAreCutsRow.holds Try.pinned (OpenSpec.ofChange fnExactAreCutsWrong)

/-- 'laws.FnExactCountPlainEnds': WHATEVER THE INPUT: true; the input reads as it did. -/
def fnExactCountPlainEndsSpec : ChangeSpec := { name := "fnExactCountPlainEnds", fn := fun _ => fun
  | [d] => { results := [.lit (.bool true)], args := [d] }
  | _ => none }
def fnExactCountPlainEndsRow : OpenClaim := { program := "ytfoededcgeemcaa", sum := "880dcb8c13ab48f5c6a92ba4c8404ee622da49ef46e4465136b59243450d801f", func := "loop.example/g01286/laws.FnExactCountPlainEnds", spec := "fnExactCountPlainEnds", recurses := true, apart := false }
def FnExactCountPlainEndsSaid : Prop := fnExactCountPlainEndsRow.holds Try.pinned (OpenSpec.ofChange fnExactCountPlainEndsSpec)

/-- ITS FALSE NEIGHBOUR: 'it returns false'. Refute it at one input. -/
def fnExactCountPlainEndsWrong : ChangeSpec := { name := "fnExactCountPlainEnds", fn := fun _ => fun
  | [d] => { results := [.lit (.bool false)], args := [d] }
  | _ => none }
def FnExactCountPlainEndsWrongFalsely : Prop := fnExactCountPlainEndsRow.holds Try.pinned (OpenSpec.ofChange fnExactCountPlainEndsWrong)

/-- 'laws.FnExactCutsAt': WHATEVER THE INPUT: true; the input reads as it did. -/
def fnExactCutsAtSpec : ChangeSpec := { name := "fnExactCutsAt", fn := fun _ => fun
  | [d1, d2] => { results := [.lit (.bool true)], args := [d1, d2] }
  | _ => none }
def fnExactCutsAtRow : OpenClaim := { program := "ytfoededcgeemcaa", sum := "880dcb8c13ab48f5c6a92ba4c8404ee622da49ef46e4465136b59243450d801f", func := "loop.example/g01286/laws.FnExactCutsAt", spec := "fnExactCutsAt", recurses := true, apart := false }
def FnExactCutsAtSaid : Prop := fnExactCutsAtRow.holds Try.pinned (OpenSpec.ofChange fnExactCutsAtSpec)

/-- ITS FALSE NEIGHBOUR: 'it returns false'. Refute it at one input. -/
def fnExactCutsAtWrong : ChangeSpec := { name := "fnExactCutsAt", fn := fun _ => fun
  | [d1, d2] => { results := [.lit (.bool false)], args := [d1, d2] }
  | _ => none }
def FnExactCutsAtWrongFalsely : Prop := fnExactCutsAtRow.holds Try.pinned (OpenSpec.ofChange fnExactCutsAtWrong)

/-- 'laws.FnExactPlainEnds': WHATEVER THE INPUT: true; the input reads as it did. -/
def fnExactPlainEndsSpec : ChangeSpec := { name := "fnExactPlainEnds", fn := fun _ => fun
  | [d] => { results := [.lit (.bool true)], args := [d] }
  | _ => none }
def fnExactPlainEndsRow : OpenClaim := { program := "ytfoededcgeemcaa", sum := "880dcb8c13ab48f5c6a92ba4c8404ee622da49ef46e4465136b59243450d801f", func := "loop.example/g01286/laws.FnExactPlainEnds", spec := "fnExactPlainEnds", apart := false }
def FnExactPlainEndsSaid : Prop := fnExactPlainEndsRow.holds Try.pinned (OpenSpec.ofChange fnExactPlainEndsSpec)

/-- ITS FALSE NEIGHBOUR: 'it returns false'. Refute it at one input. -/
def fnExactPlainEndsWrong : ChangeSpec := { name := "fnExactPlainEnds", fn := fun _ => fun
  | [d] => { results := [.lit (.bool false)], args := [d] }
  | _ => none }
def FnExactPlainEndsWrongFalsely : Prop := fnExactPlainEndsRow.holds Try.pinned (OpenSpec.ofChange fnExactPlainEndsWrong)

/-- 'laws.FnExactEndsDepth': WHATEVER THE INPUT: true; the input reads as it did. -/
def fnExactEndsDepthSpec : ChangeSpec := { name := "fnExactEndsDepth", fn := fun _ => fun
  | [d] => { results := [.lit (.bool true)], args := [d] }
  | _ => none }
def fnExactEndsDepthRow : OpenClaim := { program := "ytfoededcgeemcaa", sum := "880dcb8c13ab48f5c6a92ba4c8404ee622da49ef46e4465136b59243450d801f", func := "loop.example/g01286/laws.FnExactEndsDepth", spec := "fnExactEndsDepth", apart := false }
def FnExactEndsDepthSaid : Prop := fnExactEndsDepthRow.holds Try.pinned (OpenSpec.ofChange fnExactEndsDepthSpec)

/-- ITS FALSE NEIGHBOUR: 'it returns false'. Refute it at one input. -/
def fnExactEndsDepthWrong : ChangeSpec := { name := "fnExactEndsDepth", fn := fun _ => fun
  | [d] => { results := [.lit (.bool false)], args := [d] }
  | _ => none }
def FnExactEndsDepthWrongFalsely : Prop := fnExactEndsDepthRow.holds Try.pinned (OpenSpec.ofChange fnExactEndsDepthWrong)

/-- 'laws.FnExactIsSharing': WHATEVER THE INPUT: true; the input reads as it did. -/
def fnExactIsSharingSpec : ChangeSpec := { name := "fnExactIsSharing", fn := fun _ => fun
  | [d1, d2] => { results := [.lit (.bool true)], args := [d1, d2] }
  | _ => none }
def fnExactIsSharingRow : OpenClaim := { program := "ytfoededcgeemcaa", sum := "880dcb8c13ab48f5c6a92ba4c8404ee622da49ef46e4465136b59243450d801f", func := "loop.example/g01286/laws.FnExactIsSharing", spec := "fnExactIsSharing", unfollowed := true, recurses := true, apart := false }
def FnExactIsSharingSaid : Prop := fnExactIsSharingRow.holds Try.pinned (OpenSpec.ofChange fnExactIsSharingSpec)

/-- ITS FALSE NEIGHBOUR: 'it returns false'. Refute it at one input. -/
def fnExactIsSharingWrong : ChangeSpec := { name := "fnExactIsSharing", fn := fun _ => fun
  | [d1, d2] => { results := [.lit (.bool false)], args := [d1, d2] }
  | _ => none }
def FnExactIsSharingWrongFalsely : Prop := fnExactIsSharingRow.holds Try.pinned (OpenSpec.ofChange fnExactIsSharingWrong)

/-- 'laws.FnExactFallsOf': WHATEVER THE INPUT: true; the input reads as it did. -/
def fnExactFallsOfSpec : ChangeSpec := { name := "fnExactFallsOf", fn := fun _ => fun
  | [d] => { results := [.lit (.bool true)], args := [d] }
  | _ => none }
def fnExactFallsOfRow : OpenClaim := { program := "ytfoededcgeemcaa", sum := "880dcb8c13ab48f5c6a92ba4c8404ee622da49ef46e4465136b59243450d801f", func := "loop.example/g01286/laws.FnExactFallsOf", spec := "fnExactFallsOf", apart := false }
def FnExactFallsOfSaid : Prop := fnExactFallsOfRow.holds Try.pinned (OpenSpec.ofChange fnExactFallsOfSpec)

/-- ITS FALSE NEIGHBOUR: 'it returns false'. Refute it at one input. -/
def fnExactFallsOfWrong : ChangeSpec := { name := "fnExactFallsOf", fn := fun _ => fun
  | [d] => { results := [.lit (.bool false)], args := [d] }
  | _ => none }
def FnExactFallsOfWrongFalsely : Prop := fnExactFallsOfRow.holds Try.pinned (OpenSpec.ofChange fnExactFallsOfWrong)

/-- 'laws.FnExactMeanDepth': WHATEVER THE INPUT: true; the input reads as it did. -/
def fnExactMeanDepthSpec : ChangeSpec := { name := "fnExactMeanDepth", fn := fun _ => fun
  | [d] => { results := [.lit (.bool true)], args := [d] }
  | _ => none }
def fnExactMeanDepthRow : OpenClaim := { program := "ytfoededcgeemcaa", sum := "880dcb8c13ab48f5c6a92ba4c8404ee622da49ef46e4465136b59243450d801f", func := "loop.example/g01286/laws.FnExactMeanDepth", spec := "fnExactMeanDepth", unfollowed := true, recurses := true, apart := false }
def FnExactMeanDepthSaid : Prop := fnExactMeanDepthRow.holds Try.pinned (OpenSpec.ofChange fnExactMeanDepthSpec)

/-- ITS FALSE NEIGHBOUR: 'it returns false'. Refute it at one input. -/
def fnExactMeanDepthWrong : ChangeSpec := { name := "fnExactMeanDepth", fn := fun _ => fun
  | [d] => { results := [.lit (.bool false)], args := [d] }
  | _ => none }
def FnExactMeanDepthWrongFalsely : Prop := fnExactMeanDepthRow.holds Try.pinned (OpenSpec.ofChange fnExactMeanDepthWrong)

/-- 'laws.FnExactEndsTo': WHATEVER THE INPUT: true; the input reads as it did. -/
def fnExactEndsToSpec : ChangeSpec := { name := "fnExactEndsTo", fn := fun _ => fun
  | [d1, d2] => { results := [.lit (.bool true)], args := [d1, d2] }
  | _ => none }
def fnExactEndsToRow : OpenClaim := { program := "ytfoededcgeemcaa", sum := "880dcb8c13ab48f5c6a92ba4c8404ee622da49ef46e4465136b59243450d801f", func := "loop.example/g01286/laws.FnExactEndsTo", spec := "fnExactEndsTo", apart := false }
def FnExactEndsToSaid : Prop := fnExactEndsToRow.holds Try.pinned (OpenSpec.ofChange fnExactEndsToSpec)

/-- ITS FALSE NEIGHBOUR: 'it returns false'. Refute it at one input. -/
def fnExactEndsToWrong : ChangeSpec := { name := "fnExactEndsTo", fn := fun _ => fun
  | [d1, d2] => { results := [.lit (.bool false)], args := [d1, d2] }
  | _ => none }
def FnExactEndsToWrongFalsely : Prop := fnExactEndsToRow.holds Try.pinned (OpenSpec.ofChange fnExactEndsToWrong)

/-- 'laws.FnExactChanceDepth': WHATEVER THE INPUT: true; the input reads as it did. -/
def fnExactChanceDepthSpec : ChangeSpec := { name := "fnExactChanceDepth", fn := fun _ => fun
  | [d1, d2] => { results := [.lit (.bool true)], args := [d1, d2] }
  | _ => none }
def fnExactChanceDepthRow : OpenClaim := { program := "ytfoededcgeemcaa", sum := "880dcb8c13ab48f5c6a92ba4c8404ee622da49ef46e4465136b59243450d801f", func := "loop.example/g01286/laws.FnExactChanceDepth", spec := "fnExactChanceDepth", unfollowed := true, recurses := true, apart := false }
def FnExactChanceDepthSaid : Prop := fnExactChanceDepthRow.holds Try.pinned (OpenSpec.ofChange fnExactChanceDepthSpec)

/-- ITS FALSE NEIGHBOUR: 'it returns false'. Refute it at one input. -/
def fnExactChanceDepthWrong : ChangeSpec := { name := "fnExactChanceDepth", fn := fun _ => fun
  | [d1, d2] => { results := [.lit (.bool false)], args := [d1, d2] }
  | _ => none }
def FnExactChanceDepthWrongFalsely : Prop := fnExactChanceDepthRow.holds Try.pinned (OpenSpec.ofChange fnExactChanceDepthWrong)

/-- 'laws.FnExactRankOfCuts': WHATEVER THE INPUT: true; the input reads as it did. -/
def fnExactRankOfCutsSpec : ChangeSpec := { name := "fnExactRankOfCuts", fn := fun _ => fun
  | [d] => { results := [.lit (.bool true)], args := [d] }
  | _ => none }
def fnExactRankOfCutsRow : OpenClaim := { program := "ytfoededcgeemcaa", sum := "880dcb8c13ab48f5c6a92ba4c8404ee622da49ef46e4465136b59243450d801f", func := "loop.example/g01286/laws.FnExactRankOfCuts", spec := "fnExactRankOfCuts", unfollowed := true, recurses := true, apart := false }
def FnExactRankOfCutsSaid : Prop := fnExactRankOfCutsRow.holds Try.pinned (OpenSpec.ofChange fnExactRankOfCutsSpec)

/-- ITS FALSE NEIGHBOUR: 'it returns false'. Refute it at one input. -/
def fnExactRankOfCutsWrong : ChangeSpec := { name := "fnExactRankOfCuts", fn := fun _ => fun
  | [d] => { results := [.lit (.bool false)], args := [d] }
  | _ => none }
def FnExactRankOfCutsWrongFalsely : Prop := fnExactRankOfCutsRow.holds Try.pinned (OpenSpec.ofChange fnExactRankOfCutsWrong)

/- THE SECOND FORM. 'bulk': how many values and letters a reading holds, each counted each time it is reached (what is shared counts as often as it is met; a slice's spare places count too). A statement '..UptoSaid' is the law's where the arguments, and the package variables that the reading takes, are together of bulk at most 1048576: NARROWER than '..Said'. Prove '..Said' where nothing that the law and all that it calls make is longer than what came in: it says more and counts as full. Else prove '..UptoSaid'. A law counts once. -/
mutual
def uptoBulk {H : Type} : DataW H → Nat
  | .lit (.string bytes) => bytes.length + 1
  | .lit _ => 1
  | .nil => 1
  | .ptr d => uptoBulk d + 1
  | .slice elems spare => uptoBulkAll elems + uptoBulkAll spare + 1
  | .agg parts => uptoBulkAll parts + 1
  | .iface _ d => uptoBulk d + 1
  | .map entries => uptoBulkEntries entries + 1
  | .held _ => 1
def uptoBulkAll {H : Type} : List (DataW H) → Nat
  | [] => 0
  | d :: r => uptoBulk d + uptoBulkAll r
def uptoBulkEntries {H : Type} : List (Lit × DataW H) → Nat
  | [] => 0
  | x :: r => uptoBulkEntry x + uptoBulkEntries r
def uptoBulkEntry {H : Type} : Lit × DataW H → Nat
  | (.string bytes, d) => bytes.length + uptoBulk d + 1
  | (_, d) => uptoBulk d + 1
 end
def uptoSmall : (H : Type) → List (DataW H) → Bool := fun _ ds => decide (uptoBulkAll ds ≤ 1048576)
def OpenSpec.upto (s : _root_.Go.ChangeSpec) : _root_.Go.OpenSpec := { _root_.Go.OpenSpec.ofChange s with cond := some uptoSmall }

/-- 'laws.FnExactIsEndsWord', WHERE WHAT IT READS IS OF BULK AT MOST 1048576: true; the input reads as it did. -/
def fnExactIsEndsWordUptoRow : OpenClaim := { program := "ytfoededcgeemcaa", sum := "880dcb8c13ab48f5c6a92ba4c8404ee622da49ef46e4465136b59243450d801f", func := "loop.example/g01286/laws.FnExactIsEndsWord", spec := "fnExactIsEndsWord", apart := false, narrowed := true }
def FnExactIsEndsWordUptoSaid : Prop := fnExactIsEndsWordUptoRow.holds Try.pinned (OpenSpec.upto fnExactIsEndsWordSpec)

/-- 'laws.FnExactAreCuts', WHERE WHAT IT READS IS OF BULK AT MOST 1048576: true; the input reads as it did. -/
def fnExactAreCutsUptoRow : OpenClaim := { program := "ytfoededcgeemcaa", sum := "880dcb8c13ab48f5c6a92ba4c8404ee622da49ef46e4465136b59243450d801f", func := "loop.example/g01286/laws.FnExactAreCuts", spec := "fnExactAreCuts", apart := false, narrowed := true }
def FnExactAreCutsUptoSaid : Prop := fnExactAreCutsUptoRow.holds Try.pinned (OpenSpec.upto fnExactAreCutsSpec)

/-- 'laws.FnExactCountPlainEnds', WHERE WHAT IT READS IS OF BULK AT MOST 1048576: true; the input reads as it did. -/
def fnExactCountPlainEndsUptoRow : OpenClaim := { program := "ytfoededcgeemcaa", sum := "880dcb8c13ab48f5c6a92ba4c8404ee622da49ef46e4465136b59243450d801f", func := "loop.example/g01286/laws.FnExactCountPlainEnds", spec := "fnExactCountPlainEnds", recurses := true, apart := false, narrowed := true }
def FnExactCountPlainEndsUptoSaid : Prop := fnExactCountPlainEndsUptoRow.holds Try.pinned (OpenSpec.upto fnExactCountPlainEndsSpec)

/-- 'laws.FnExactCutsAt', WHERE WHAT IT READS IS OF BULK AT MOST 1048576: true; the input reads as it did. -/
def fnExactCutsAtUptoRow : OpenClaim := { program := "ytfoededcgeemcaa", sum := "880dcb8c13ab48f5c6a92ba4c8404ee622da49ef46e4465136b59243450d801f", func := "loop.example/g01286/laws.FnExactCutsAt", spec := "fnExactCutsAt", recurses := true, apart := false, narrowed := true }
def FnExactCutsAtUptoSaid : Prop := fnExactCutsAtUptoRow.holds Try.pinned (OpenSpec.upto fnExactCutsAtSpec)

/-- 'laws.FnExactPlainEnds', WHERE WHAT IT READS IS OF BULK AT MOST 1048576: true; the input reads as it did. -/
def fnExactPlainEndsUptoRow : OpenClaim := { program := "ytfoededcgeemcaa", sum := "880dcb8c13ab48f5c6a92ba4c8404ee622da49ef46e4465136b59243450d801f", func := "loop.example/g01286/laws.FnExactPlainEnds", spec := "fnExactPlainEnds", apart := false, narrowed := true }
def FnExactPlainEndsUptoSaid : Prop := fnExactPlainEndsUptoRow.holds Try.pinned (OpenSpec.upto fnExactPlainEndsSpec)

/-- 'laws.FnExactEndsDepth', WHERE WHAT IT READS IS OF BULK AT MOST 1048576: true; the input reads as it did. -/
def fnExactEndsDepthUptoRow : OpenClaim := { program := "ytfoededcgeemcaa", sum := "880dcb8c13ab48f5c6a92ba4c8404ee622da49ef46e4465136b59243450d801f", func := "loop.example/g01286/laws.FnExactEndsDepth", spec := "fnExactEndsDepth", apart := false, narrowed := true }
def FnExactEndsDepthUptoSaid : Prop := fnExactEndsDepthUptoRow.holds Try.pinned (OpenSpec.upto fnExactEndsDepthSpec)

/-- 'laws.FnExactIsSharing', WHERE WHAT IT READS IS OF BULK AT MOST 1048576: true; the input reads as it did. -/
def fnExactIsSharingUptoRow : OpenClaim := { program := "ytfoededcgeemcaa", sum := "880dcb8c13ab48f5c6a92ba4c8404ee622da49ef46e4465136b59243450d801f", func := "loop.example/g01286/laws.FnExactIsSharing", spec := "fnExactIsSharing", unfollowed := true, recurses := true, apart := false, narrowed := true }
def FnExactIsSharingUptoSaid : Prop := fnExactIsSharingUptoRow.holds Try.pinned (OpenSpec.upto fnExactIsSharingSpec)

/-- 'laws.FnExactFallsOf', WHERE WHAT IT READS IS OF BULK AT MOST 1048576: true; the input reads as it did. -/
def fnExactFallsOfUptoRow : OpenClaim := { program := "ytfoededcgeemcaa", sum := "880dcb8c13ab48f5c6a92ba4c8404ee622da49ef46e4465136b59243450d801f", func := "loop.example/g01286/laws.FnExactFallsOf", spec := "fnExactFallsOf", apart := false, narrowed := true }
def FnExactFallsOfUptoSaid : Prop := fnExactFallsOfUptoRow.holds Try.pinned (OpenSpec.upto fnExactFallsOfSpec)

/-- 'laws.FnExactMeanDepth', WHERE WHAT IT READS IS OF BULK AT MOST 1048576: true; the input reads as it did. -/
def fnExactMeanDepthUptoRow : OpenClaim := { program := "ytfoededcgeemcaa", sum := "880dcb8c13ab48f5c6a92ba4c8404ee622da49ef46e4465136b59243450d801f", func := "loop.example/g01286/laws.FnExactMeanDepth", spec := "fnExactMeanDepth", unfollowed := true, recurses := true, apart := false, narrowed := true }
def FnExactMeanDepthUptoSaid : Prop := fnExactMeanDepthUptoRow.holds Try.pinned (OpenSpec.upto fnExactMeanDepthSpec)

/-- 'laws.FnExactEndsTo', WHERE WHAT IT READS IS OF BULK AT MOST 1048576: true; the input reads as it did. -/
def fnExactEndsToUptoRow : OpenClaim := { program := "ytfoededcgeemcaa", sum := "880dcb8c13ab48f5c6a92ba4c8404ee622da49ef46e4465136b59243450d801f", func := "loop.example/g01286/laws.FnExactEndsTo", spec := "fnExactEndsTo", apart := false, narrowed := true }
def FnExactEndsToUptoSaid : Prop := fnExactEndsToUptoRow.holds Try.pinned (OpenSpec.upto fnExactEndsToSpec)

/-- 'laws.FnExactChanceDepth', WHERE WHAT IT READS IS OF BULK AT MOST 1048576: true; the input reads as it did. -/
def fnExactChanceDepthUptoRow : OpenClaim := { program := "ytfoededcgeemcaa", sum := "880dcb8c13ab48f5c6a92ba4c8404ee622da49ef46e4465136b59243450d801f", func := "loop.example/g01286/laws.FnExactChanceDepth", spec := "fnExactChanceDepth", unfollowed := true, recurses := true, apart := false, narrowed := true }
def FnExactChanceDepthUptoSaid : Prop := fnExactChanceDepthUptoRow.holds Try.pinned (OpenSpec.upto fnExactChanceDepthSpec)

/-- 'laws.FnExactRankOfCuts', WHERE WHAT IT READS IS OF BULK AT MOST 1048576: true; the input reads as it did. -/
def fnExactRankOfCutsUptoRow : OpenClaim := { program := "ytfoededcgeemcaa", sum := "880dcb8c13ab48f5c6a92ba4c8404ee622da49ef46e4465136b59243450d801f", func := "loop.example/g01286/laws.FnExactRankOfCuts", spec := "fnExactRankOfCuts", unfollowed := true, recurses := true, apart := false, narrowed := true }
def FnExactRankOfCutsUptoSaid : Prop := fnExactRankOfCutsUptoRow.holds Try.pinned (OpenSpec.upto fnExactRankOfCutsSpec)

end Rows
end Go.Proofs.Ytfoededcgeemcaa
