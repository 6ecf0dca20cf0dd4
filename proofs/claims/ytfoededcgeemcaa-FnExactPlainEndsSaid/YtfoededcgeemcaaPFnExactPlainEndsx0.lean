-- laid by mkprint.py, a program of this claim's writer, over the kit's print program; parts of it are typed by hand
import Derived.Test.YtfoededcgeemcaaProg
import Derived.Below
import Derived.Deep.Draws
import Derived.Deep.AppendLies
import Derived.Maps.AppendAt
import Derived.OwnWalk
import Derived.Laws.BytesArg
import Derived.Laws.MakeOwn
import Derived.Laws.OwnMore
import Derived.Deep.OwnRows
import Derived.Tactics
import Derived.Lib.ConvBytes
import Derived.Laws.Slices
import Derived.WalkKit
import Derived.KernelRfl
import Derived.RowKit3
import Derived.Deep.LoopGhost
import Derived.Deep.QuietTactic
import Derived.BigQuiet
import Derived.WideLaws
import Derived.Deep.DeepCutAuto
import Derived.Deep.CutBlock
import Derived.Deep.RegionHeld3
import Derived.Laws.Rows
import Derived.Lib.AppendStr
import Derived.ArgAppend
import Derived.Laws.IdiomCopy
import Derived.OrdersHeld
import Derived.Laws.BitsLemmas
import Derived.RowKit
import Derived.Test.YtfoededcgeemcaaH
import Derived.Test.YtfoededcgeemcaaJ
import Derived.Test.YtfoededcgeemcaaWWords
import Derived.Test.YtfoededcgeemcaaWLast
import Derived.Test.YtfoededcgeemcaaWTab
import Derived.Test.YtfoededcgeemcaaWFour
import Derived.Test.YtfoededcgeemcaaWQPut
import Derived.Test.YtfoededcgeemcaaWApart
import Derived.Test.YtfoededcgeemcaaWArr
import Derived.Test.YtfoededcgeemcaaWZeros
import Derived.Test.YtfoededcgeemcaaWFoot
import Derived.Test.YtfoededcgeemcaaWKept
import Derived.Test.YtfoededcgeemcaaWShare
import Derived.Test.YtfoededcgeemcaaWN
import Derived.Test.YtfoededcgeemcaaWFootNe
import Derived.Test.YtfoededcgeemcaaWAt
import Derived.Test.YtfoededcgeemcaaWEqStruct
import Derived.Test.YtfoededcgeemcaaWRepsOne
import Derived.Test.YtfoededcgeemcaaWInv
import Derived.Test.YtfoededcgeemcaaWInvWords
import Derived.Test.YtfoededcgeemcaaWGuard
import Derived.Test.YtfoededcgeemcaaWNEv
import Derived.Test.YtfoededcgeemcaaWMore
namespace Go.Proofs.Ytfoededcgeemcaa.PFnExactPlainEnds
open Go.RowKit Go.Proofs.YtfoededcgeemcaaW.PrintWords Go.Proofs.YtfoededcgeemcaaW.PrintLast Go.Proofs.YtfoededcgeemcaaW.PrintMore
attribute [local go_sem] max2_int min2_int max_two min_two max_three min_three max_four min_four   -- for this text's walks alone
set_option linter.unusedVariables false
set_option linter.unusedSimpArgs false



def errW : Option Int → Value
  | none => .nilIface
  | some c => .iface 0 (.int .i64 c)
theorem errW_none : errW none = .nilIface := rfl
theorem errW_some (c : Int) : errW (some c) = .iface 0 (.int .i64 c) := rfl

-- the values' own types

end Go.Proofs.Ytfoededcgeemcaa.PFnExactPlainEnds
