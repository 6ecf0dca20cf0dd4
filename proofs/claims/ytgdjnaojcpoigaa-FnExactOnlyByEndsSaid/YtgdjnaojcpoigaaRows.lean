/-
  No cell of these rows narrows 'for every input' (looked for: loops, veiled, ifaces, maps, wideKeys, modest, calm, conditions, laid).
  DERIVED. THE GIVEN ROWS OF THIS SEAT. 7 by the template 'for every input the law returns true; each argument reads behind the call as it read before'; 0 by the template 'total and deterministic' (their statements: YtgdjnaojcpoigaaTotals.lean).
  GIVEN WITH THE SEED: the statements are not yours to turn. If you find one false, say at which input.
  Laid BY PROGRAM, IN A SANDBOX (cutbox-rows.mjs): the forced cells as the released guide's own fill.sh prints them over the translation ef7fe6d88d01cf85… (all of the seat's roots in one cut). By AI agents, Wed Nov 11 2026. No macro, syntax, notation, axiom, sorry.
-/
import Derived.Test.YtgdjnaojcpoigaaChecked
import GoSem.Claim
import GoSem.ClaimJoined
import GoSem.ClaimMapViews
import Derived.JoinedTies
import Derived.KernelRfl
namespace Go.Proofs.Ytgdjnaojcpoigaa
/- THE CELL 'sum', in the pinned program and in every row, IS THE sha256 OF THE DUMP (.gsa) THAT YtgdjnaojcpoigaaProg.lean LOADS. Nothing in Lean hashes anything: it is a label: what it is worth is what the hold of that sum in a sandbox is worth. -/
noncomputable def Try.pinned : Pinned := { name := "ytgdjnaojcpoigaa", sum := "ef7fe6d88d01cf85f7af002f9bb9f478ab11201e876932b748545a8cfc379247", checked := Try.checked }
namespace Rows
def none {H : Type} : Left H := { results := [], args := [] }

/-- 'laws.FnExactRunEnds': WHATEVER THE INPUT: true; the input reads as it did. -/
def fnExactRunEndsSpec : ChangeSpec := { name := "fnExactRunEnds", fn := fun _ => fun
  | [d1, d2] => { results := [.lit (.bool true)], args := [d1, d2] }
  | _ => none }
def fnExactRunEndsRow : OpenClaim := { program := "ytgdjnaojcpoigaa", sum := "ef7fe6d88d01cf85f7af002f9bb9f478ab11201e876932b748545a8cfc379247", func := "loop.example/g01286/laws.FnExactRunEnds", spec := "fnExactRunEnds", apart := false }
def FnExactRunEndsSaid : Prop := fnExactRunEndsRow.holds Try.pinned (OpenSpec.ofChange fnExactRunEndsSpec)

/-- ITS FALSE NEIGHBOUR: 'it returns false'. Refute it at one input. -/
def fnExactRunEndsWrong : ChangeSpec := { name := "fnExactRunEnds", fn := fun _ => fun
  | [d1, d2] => { results := [.lit (.bool false)], args := [d1, d2] }
  | _ => none }
def FnExactRunEndsWrongFalsely : Prop := fnExactRunEndsRow.holds Try.pinned (OpenSpec.ofChange fnExactRunEndsWrong)

/-- 'laws.FnExactAsQueue': WHATEVER THE INPUT: true; the input reads as it did. -/
def fnExactAsQueueSpec : ChangeSpec := { name := "fnExactAsQueue", fn := fun _ => fun
  | [d] => { results := [.lit (.bool true)], args := [d] }
  | _ => none }
def fnExactAsQueueRow : OpenClaim := { program := "ytgdjnaojcpoigaa", sum := "ef7fe6d88d01cf85f7af002f9bb9f478ab11201e876932b748545a8cfc379247", func := "loop.example/g01286/laws.FnExactAsQueue", spec := "fnExactAsQueue", inPlace := ["internal/abi.NoEscape", "internal/bytealg.MakeNoZero"], apart := false }
def FnExactAsQueueSaid : Prop := fnExactAsQueueRow.holds Try.pinned (OpenSpec.ofChange fnExactAsQueueSpec)

/-- ITS FALSE NEIGHBOUR: 'it returns false'. Refute it at one input. -/
def fnExactAsQueueWrong : ChangeSpec := { name := "fnExactAsQueue", fn := fun _ => fun
  | [d] => { results := [.lit (.bool false)], args := [d] }
  | _ => none }
def FnExactAsQueueWrongFalsely : Prop := fnExactAsQueueRow.holds Try.pinned (OpenSpec.ofChange fnExactAsQueueWrong)

/-- 'laws.FnExactCountEnds': WHATEVER THE INPUT: true; the input reads as it did. -/
def fnExactCountEndsSpec : ChangeSpec := { name := "fnExactCountEnds", fn := fun _ => fun
  | [d] => { results := [.lit (.bool true)], args := [d] }
  | _ => none }
def fnExactCountEndsRow : OpenClaim := { program := "ytgdjnaojcpoigaa", sum := "ef7fe6d88d01cf85f7af002f9bb9f478ab11201e876932b748545a8cfc379247", func := "loop.example/g01286/laws.FnExactCountEnds", spec := "fnExactCountEnds", unfollowed := true, recurses := true, apart := false }
def FnExactCountEndsSaid : Prop := fnExactCountEndsRow.holds Try.pinned (OpenSpec.ofChange fnExactCountEndsSpec)

/-- ITS FALSE NEIGHBOUR: 'it returns false'. Refute it at one input. -/
def fnExactCountEndsWrong : ChangeSpec := { name := "fnExactCountEnds", fn := fun _ => fun
  | [d] => { results := [.lit (.bool false)], args := [d] }
  | _ => none }
def FnExactCountEndsWrongFalsely : Prop := fnExactCountEndsRow.holds Try.pinned (OpenSpec.ofChange fnExactCountEndsWrong)

/-- 'laws.FnExactBottomPops': WHATEVER THE INPUT: true; the input reads as it did. -/
def fnExactBottomPopsSpec : ChangeSpec := { name := "fnExactBottomPops", fn := fun _ => fun
  | [d1, d2] => { results := [.lit (.bool true)], args := [d1, d2] }
  | _ => none }
def fnExactBottomPopsRow : OpenClaim := { program := "ytgdjnaojcpoigaa", sum := "ef7fe6d88d01cf85f7af002f9bb9f478ab11201e876932b748545a8cfc379247", func := "loop.example/g01286/laws.FnExactBottomPops", spec := "fnExactBottomPops", inPlace := ["internal/bytealg.CountString", "internal/bytealg.IndexByteString", "internal/bytealg.IndexString"], named := ["internal/bytealg.MaxLen"], apart := false }
def FnExactBottomPopsSaid : Prop := fnExactBottomPopsRow.holds Try.pinned (OpenSpec.ofChange fnExactBottomPopsSpec)

/-- ITS FALSE NEIGHBOUR: 'it returns false'. Refute it at one input. -/
def fnExactBottomPopsWrong : ChangeSpec := { name := "fnExactBottomPops", fn := fun _ => fun
  | [d1, d2] => { results := [.lit (.bool false)], args := [d1, d2] }
  | _ => none }
def FnExactBottomPopsWrongFalsely : Prop := fnExactBottomPopsRow.holds Try.pinned (OpenSpec.ofChange fnExactBottomPopsWrong)

/-- 'laws.FnExactOnlyByEnds': WHATEVER THE INPUT: true; the input reads as it did. -/
def fnExactOnlyByEndsSpec : ChangeSpec := { name := "fnExactOnlyByEnds", fn := fun _ => fun
  | [d] => { results := [.lit (.bool true)], args := [d] }
  | _ => none }
def fnExactOnlyByEndsRow : OpenClaim := { program := "ytgdjnaojcpoigaa", sum := "ef7fe6d88d01cf85f7af002f9bb9f478ab11201e876932b748545a8cfc379247", func := "loop.example/g01286/laws.FnExactOnlyByEnds", spec := "fnExactOnlyByEnds", unfollowed := true, recurses := true, apart := false }
def FnExactOnlyByEndsSaid : Prop := fnExactOnlyByEndsRow.holds Try.pinned (OpenSpec.ofChange fnExactOnlyByEndsSpec)

/-- ITS FALSE NEIGHBOUR: 'it returns false'. Refute it at one input. -/
def fnExactOnlyByEndsWrong : ChangeSpec := { name := "fnExactOnlyByEnds", fn := fun _ => fun
  | [d] => { results := [.lit (.bool false)], args := [d] }
  | _ => none }
def FnExactOnlyByEndsWrongFalsely : Prop := fnExactOnlyByEndsRow.holds Try.pinned (OpenSpec.ofChange fnExactOnlyByEndsWrong)

/-- 'laws.FnExactEndsOutputs': WHATEVER THE INPUT: true; the input reads as it did. -/
def fnExactEndsOutputsSpec : ChangeSpec := { name := "fnExactEndsOutputs", fn := fun _ => fun
  | [d] => { results := [.lit (.bool true)], args := [d] }
  | _ => none }
def fnExactEndsOutputsRow : OpenClaim := { program := "ytgdjnaojcpoigaa", sum := "ef7fe6d88d01cf85f7af002f9bb9f478ab11201e876932b748545a8cfc379247", func := "loop.example/g01286/laws.FnExactEndsOutputs", spec := "fnExactEndsOutputs", unfollowed := true, recurses := true, apart := false }
def FnExactEndsOutputsSaid : Prop := fnExactEndsOutputsRow.holds Try.pinned (OpenSpec.ofChange fnExactEndsOutputsSpec)

/-- ITS FALSE NEIGHBOUR: 'it returns false'. Refute it at one input. -/
def fnExactEndsOutputsWrong : ChangeSpec := { name := "fnExactEndsOutputs", fn := fun _ => fun
  | [d] => { results := [.lit (.bool false)], args := [d] }
  | _ => none }
def FnExactEndsOutputsWrongFalsely : Prop := fnExactEndsOutputsRow.holds Try.pinned (OpenSpec.ofChange fnExactEndsOutputsWrong)

/-- 'laws.FnExactStackWord': WHATEVER THE INPUT: true; the input reads as it did. -/
def fnExactStackWordSpec : ChangeSpec := { name := "fnExactStackWord", fn := fun _ => fun
  | [d] => { results := [.lit (.bool true)], args := [d] }
  | _ => none }
def fnExactStackWordRow : OpenClaim := { program := "ytgdjnaojcpoigaa", sum := "ef7fe6d88d01cf85f7af002f9bb9f478ab11201e876932b748545a8cfc379247", func := "loop.example/g01286/laws.FnExactStackWord", spec := "fnExactStackWord", inPlace := ["sync/atomic.LoadUint32", "(*internal/sync.Mutex).Lock", "internal/race.Disable", "sync/atomic.CompareAndSwapInt32", "internal/race.Enable", "internal/race.Acquire", "(*internal/sync.Mutex).lockSlow", "internal/sync.runtime_canSpin", "internal/sync.runtime_doSpin", "internal/sync.throw", "internal/sync.runtime_nanotime", "internal/sync.runtime_SemacquireMutex", "sync/atomic.AddInt32", "(*internal/sync.Mutex).Unlock", "internal/race.ReleaseMerge", "(*internal/sync.Mutex).unlockSlow", "internal/sync.fatal", "internal/sync.runtime_Semrelease", "sync/atomic.StoreUint32"], unfollowed := true, recurses := true, apart := false }
def FnExactStackWordSaid : Prop := fnExactStackWordRow.holds Try.pinned (OpenSpec.ofChange fnExactStackWordSpec)

/-- ITS FALSE NEIGHBOUR: 'it returns false'. Refute it at one input. -/
def fnExactStackWordWrong : ChangeSpec := { name := "fnExactStackWord", fn := fun _ => fun
  | [d] => { results := [.lit (.bool false)], args := [d] }
  | _ => none }
def FnExactStackWordWrongFalsely : Prop := fnExactStackWordRow.holds Try.pinned (OpenSpec.ofChange fnExactStackWordWrong)

/- THE SECOND FORM. 'bulk': how many values and letters a reading holds, each counted each time it is reached (what is shared counts as often as it is met; a slice's spare places count too). A statement '..UptoSaid' is the law's where the arguments, and the package variables that the reading takes, are together of bulk at most 1048576: NARROWER than '..Said'. Prove '..Said' where nothing that the law and all that it calls make is longer than what came in: it says more and counts as full. Else prove '..UptoSaid'. A law counts once. -/
mutual
def uptoBulk {H : Type} : DataW H → Nat
  | .lit (.string bytes) => bytes.length + 1
  | .lit _ => 1
  | .nil => 1
  | .ptr d => uptoBulk d + 1
  | .slice elems spare => uptoBulkAll elems + uptoBulkAll spare + 1
  | .agg parts => uptoBulkAll parts + 1
  | .iface _ d => uptoBulk d + 1
  | .map entries => uptoBulkEntries entries + 1
  | .held _ => 1
def uptoBulkAll {H : Type} : List (DataW H) → Nat
  | [] => 0
  | d :: r => uptoBulk d + uptoBulkAll r
def uptoBulkEntries {H : Type} : List (Lit × DataW H) → Nat
  | [] => 0
  | x :: r => uptoBulkEntry x + uptoBulkEntries r
def uptoBulkEntry {H : Type} : Lit × DataW H → Nat
  | (.string bytes, d) => bytes.length + uptoBulk d + 1
  | (_, d) => uptoBulk d + 1
 end
def uptoSmall : (H : Type) → List (DataW H) → Bool := fun _ ds => decide (uptoBulkAll ds ≤ 1048576)
def OpenSpec.upto (s : _root_.Go.ChangeSpec) : _root_.Go.OpenSpec := { _root_.Go.OpenSpec.ofChange s with cond := some uptoSmall }

/-- 'laws.FnExactRunEnds', WHERE WHAT IT READS IS OF BULK AT MOST 1048576: true; the input reads as it did. -/
def fnExactRunEndsUptoRow : OpenClaim := { program := "ytgdjnaojcpoigaa", sum := "ef7fe6d88d01cf85f7af002f9bb9f478ab11201e876932b748545a8cfc379247", func := "loop.example/g01286/laws.FnExactRunEnds", spec := "fnExactRunEnds", apart := false, narrowed := true }
def FnExactRunEndsUptoSaid : Prop := fnExactRunEndsUptoRow.holds Try.pinned (OpenSpec.upto fnExactRunEndsSpec)

/-- 'laws.FnExactAsQueue', WHERE WHAT IT READS IS OF BULK AT MOST 1048576: true; the input reads as it did. -/
def fnExactAsQueueUptoRow : OpenClaim := { program := "ytgdjnaojcpoigaa", sum := "ef7fe6d88d01cf85f7af002f9bb9f478ab11201e876932b748545a8cfc379247", func := "loop.example/g01286/laws.FnExactAsQueue", spec := "fnExactAsQueue", inPlace := ["internal/abi.NoEscape", "internal/bytealg.MakeNoZero"], apart := false, narrowed := true }
def FnExactAsQueueUptoSaid : Prop := fnExactAsQueueUptoRow.holds Try.pinned (OpenSpec.upto fnExactAsQueueSpec)

/-- 'laws.FnExactCountEnds', WHERE WHAT IT READS IS OF BULK AT MOST 1048576: true; the input reads as it did. -/
def fnExactCountEndsUptoRow : OpenClaim := { program := "ytgdjnaojcpoigaa", sum := "ef7fe6d88d01cf85f7af002f9bb9f478ab11201e876932b748545a8cfc379247", func := "loop.example/g01286/laws.FnExactCountEnds", spec := "fnExactCountEnds", unfollowed := true, recurses := true, apart := false, narrowed := true }
def FnExactCountEndsUptoSaid : Prop := fnExactCountEndsUptoRow.holds Try.pinned (OpenSpec.upto fnExactCountEndsSpec)

/-- 'laws.FnExactBottomPops', WHERE WHAT IT READS IS OF BULK AT MOST 1048576: true; the input reads as it did. -/
def fnExactBottomPopsUptoRow : OpenClaim := { program := "ytgdjnaojcpoigaa", sum := "ef7fe6d88d01cf85f7af002f9bb9f478ab11201e876932b748545a8cfc379247", func := "loop.example/g01286/laws.FnExactBottomPops", spec := "fnExactBottomPops", inPlace := ["internal/bytealg.CountString", "internal/bytealg.IndexByteString", "internal/bytealg.IndexString"], named := ["internal/bytealg.MaxLen"], apart := false, narrowed := true }
def FnExactBottomPopsUptoSaid : Prop := fnExactBottomPopsUptoRow.holds Try.pinned (OpenSpec.upto fnExactBottomPopsSpec)

/-- 'laws.FnExactOnlyByEnds', WHERE WHAT IT READS IS OF BULK AT MOST 1048576: true; the input reads as it did. -/
def fnExactOnlyByEndsUptoRow : OpenClaim := { program := "ytgdjnaojcpoigaa", sum := "ef7fe6d88d01cf85f7af002f9bb9f478ab11201e876932b748545a8cfc379247", func := "loop.example/g01286/laws.FnExactOnlyByEnds", spec := "fnExactOnlyByEnds", unfollowed := true, recurses := true, apart := false, narrowed := true }
def FnExactOnlyByEndsUptoSaid : Prop := fnExactOnlyByEndsUptoRow.holds Try.pinned (OpenSpec.upto fnExactOnlyByEndsSpec)

/-- 'laws.FnExactEndsOutputs', WHERE WHAT IT READS IS OF BULK AT MOST 1048576: true; the input reads as it did. -/
def fnExactEndsOutputsUptoRow : OpenClaim := { program := "ytgdjnaojcpoigaa", sum := "ef7fe6d88d01cf85f7af002f9bb9f478ab11201e876932b748545a8cfc379247", func := "loop.example/g01286/laws.FnExactEndsOutputs", spec := "fnExactEndsOutputs", unfollowed := true, recurses := true, apart := false, narrowed := true }
def FnExactEndsOutputsUptoSaid : Prop := fnExactEndsOutputsUptoRow.holds Try.pinned (OpenSpec.upto fnExactEndsOutputsSpec)

/-- 'laws.FnExactStackWord', WHERE WHAT IT READS IS OF BULK AT MOST 1048576: true; the input reads as it did. -/
def fnExactStackWordUptoRow : OpenClaim := { program := "ytgdjnaojcpoigaa", sum := "ef7fe6d88d01cf85f7af002f9bb9f478ab11201e876932b748545a8cfc379247", func := "loop.example/g01286/laws.FnExactStackWord", spec := "fnExactStackWord", inPlace := ["sync/atomic.LoadUint32", "(*internal/sync.Mutex).Lock", "internal/race.Disable", "sync/atomic.CompareAndSwapInt32", "internal/race.Enable", "internal/race.Acquire", "(*internal/sync.Mutex).lockSlow", "internal/sync.runtime_canSpin", "internal/sync.runtime_doSpin", "internal/sync.throw", "internal/sync.runtime_nanotime", "internal/sync.runtime_SemacquireMutex", "sync/atomic.AddInt32", "(*internal/sync.Mutex).Unlock", "internal/race.ReleaseMerge", "(*internal/sync.Mutex).unlockSlow", "internal/sync.fatal", "internal/sync.runtime_Semrelease", "sync/atomic.StoreUint32"], unfollowed := true, recurses := true, apart := false, narrowed := true }
def FnExactStackWordUptoSaid : Prop := fnExactStackWordUptoRow.holds Try.pinned (OpenSpec.upto fnExactStackWordSpec)

end Rows
end Go.Proofs.Ytgdjnaojcpoigaa
