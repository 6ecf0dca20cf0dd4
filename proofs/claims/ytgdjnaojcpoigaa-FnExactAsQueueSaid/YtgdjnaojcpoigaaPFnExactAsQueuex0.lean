-- laid by mkprint.py, a program of this claim's writer, over the kit's print program; parts of it are typed by hand
import Derived.Test.YtgdjnaojcpoigaaProg
import Derived.Below
import Derived.Deep.Draws
import Derived.Deep.AppendLies
import Derived.Maps.AppendAt
import Derived.OwnWalk
import Derived.Laws.BytesArg
import Derived.Laws.MakeOwn
import Derived.Laws.OwnMore
import Derived.Deep.OwnRows
import Derived.Tactics
import Derived.Lib.ConvBytes
import Derived.Laws.Slices
import Derived.WalkKit
import Derived.KernelRfl
import Derived.RowKit3
import Derived.Deep.LoopGhost
import Derived.Deep.QuietTactic
import Derived.BigQuiet
import Derived.WideLaws
import Derived.Deep.DeepCutAuto
import Derived.Deep.CutBlock
import Derived.Deep.RegionHeld3
import Derived.Laws.Rows
import Derived.Lib.AppendStr
import Derived.ArgAppend
import Derived.Laws.IdiomCopy
import Derived.OrdersHeld
import Derived.Laws.BitsLemmas
import Derived.RowKit
import Derived.Test.YtgdjnaojcpoigaaH
import Derived.Shelf.Strings.Repeat
import Derived.Test.YtgdjnaojcpoigaaWWords
import Derived.Test.YtgdjnaojcpoigaaWLast
import Derived.Test.YtgdjnaojcpoigaaWTab
import Derived.Test.YtgdjnaojcpoigaaWFour
import Derived.Test.YtgdjnaojcpoigaaWQPut
import Derived.Test.YtgdjnaojcpoigaaWApart
import Derived.Test.YtgdjnaojcpoigaaWArr
import Derived.Test.YtgdjnaojcpoigaaWZeros
import Derived.Test.YtgdjnaojcpoigaaWFoot
import Derived.Test.YtgdjnaojcpoigaaWKept
import Derived.Test.YtgdjnaojcpoigaaWShare
import Derived.Test.YtgdjnaojcpoigaaWN
import Derived.Test.YtgdjnaojcpoigaaWFootNe
import Derived.Test.YtgdjnaojcpoigaaWAt
import Derived.Test.YtgdjnaojcpoigaaWEqStruct
import Derived.Test.YtgdjnaojcpoigaaWRepsOne
import Derived.Test.YtgdjnaojcpoigaaWInv
import Derived.Test.YtgdjnaojcpoigaaWInvWords
import Derived.Test.YtgdjnaojcpoigaaWGuard
import Derived.Test.YtgdjnaojcpoigaaWNEv
import Derived.Test.YtgdjnaojcpoigaaWMore
namespace Go.Proofs.Ytgdjnaojcpoigaa.PFnExactAsQueue
open Go.RowKit Go.Proofs.YtgdjnaojcpoigaaW.PrintWords Go.Proofs.YtgdjnaojcpoigaaW.PrintLast Go.Proofs.YtgdjnaojcpoigaaW.PrintMore
attribute [local go_sem] max2_int min2_int max_two min_two max_three min_three max_four min_four   -- for this text's walks alone
set_option linter.unusedVariables false
set_option linter.unusedSimpArgs false



def errW : Option Int → Value
  | none => .nilIface
  | some c => .iface 0 (.int .i64 c)
theorem errW_none : errW none = .nilIface := rfl
theorem errW_some (c : Int) : errW (some c) = .iface 0 (.int .i64 c) := rfl

-- the values' own types

end Go.Proofs.Ytgdjnaojcpoigaa.PFnExactAsQueue
