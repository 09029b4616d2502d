import Derived.Test.YtkoojbkkkpljoaaProg
import Derived.Below
import Derived.Deep.Draws
import Derived.Deep.AppendLies
import Derived.Maps.AppendAt
import Derived.OwnWalk
import Derived.Laws.BytesArg
import Derived.Laws.MakeOwn
import Derived.Laws.OwnMore
import Derived.Deep.OwnRows
import Derived.Tactics
import Derived.Lib.ConvBytes
import Derived.Laws.Slices
import Derived.WalkKit
import Derived.KernelRfl
import Derived.RowKit3
import Derived.Deep.LoopGhost
import Derived.Deep.QuietTactic
import Derived.BigQuiet
import Derived.WideLaws
import Derived.Deep.DeepCutAuto
import Derived.Deep.CutBlock
import Derived.Deep.RegionHeld3
import Derived.Laws.Rows
import Derived.Lib.AppendStr
import Derived.ArgAppend
import Derived.Laws.IdiomCopy
import Derived.OrdersHeld
import Derived.Laws.BitsLemmas
import Derived.RowKit
import Derived.Test.YtkoojbkkkpljoaaQReaWWords
import Derived.Test.YtkoojbkkkpljoaaQReaWLast
import Derived.Test.YtkoojbkkkpljoaaQReaWTab
import Derived.Test.YtkoojbkkkpljoaaQReaWApart
import Derived.Test.YtkoojbkkkpljoaaQReaWFoot
import Derived.Test.YtkoojbkkkpljoaaQReaWKept
import Derived.Test.YtkoojbkkkpljoaaQReaWShare
import Derived.Test.YtkoojbkkkpljoaaQReaWN
import Derived.Test.YtkoojbkkkpljoaaQReaWEqStruct
import Derived.Test.YtkoojbkkkpljoaaQReaWRepsOne
import Derived.Test.YtkoojbkkkpljoaaQReaWInv
import Derived.Test.YtkoojbkkkpljoaaQReaWGuard
import Derived.Test.YtkoojbkkkpljoaaQReaWMore
namespace Go.Proofs.Ytkoojbkkkpljoaa.PL
open Go.RowKit Go.Proofs.YtkoojbkkkpljoaaW.PrintWords Go.Proofs.YtkoojbkkkpljoaaW.PrintLast Go.Proofs.YtkoojbkkkpljoaaW.PrintMore
attribute [local go_sem] max2_int min2_int max_two min_two max_three min_three max_four min_four
set_option linter.unusedVariables false
set_option linter.unusedSimpArgs false
def errW : Option Int → Value
  | none => .nilIface
  | some c => .iface 0 (.int .i64 c)
theorem errW_none : errW none = .nilIface := rfl
theorem errW_some (c : Int) : errW (some c) = .iface 0 (.int .i64 c) := rfl
theorem emp1_ (l : List UInt8) : Value.bool (!l.isEmpty) = Value.bool (l != []) := by cases l <;> rfl
theorem emp2_ (l : List UInt8) : Value.bool l.isEmpty = Value.bool (l == []) := by cases l <;> rfl
end Go.Proofs.Ytkoojbkkkpljoaa.PL

