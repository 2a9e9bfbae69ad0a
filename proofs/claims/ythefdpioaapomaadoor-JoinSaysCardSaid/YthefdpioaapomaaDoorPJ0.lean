-- Written by this session's own run of a patched print program: see NOTES.md.
import Derived.Test.YthefdpioaapomaaDoorProg
import Derived.Test.YthefdpioaapomaaDoorExtA
import Derived.Test.YthefdpioaapomaaDoorExtB
import Derived.Test.YthefdpioaapomaaDoorExtI
import Derived.Below
import Derived.Deep.Draws
import Derived.Deep.AppendLies
import Derived.Maps.AppendAt
import Derived.OwnWalk
import Derived.Laws.BytesArg
import Derived.Laws.MakeOwn
import Derived.Laws.OwnMore
import Derived.Deep.OwnRows
import Derived.Tactics
import Derived.Lib.ConvBytes
import Derived.Laws.Slices
import Derived.WalkKit
import Derived.KernelRfl
import Derived.RowKit3
import Derived.Deep.LoopGhost
import Derived.Deep.QuietTactic
import Derived.BigQuiet
import Derived.WideLaws
import Derived.Deep.DeepCutAuto
import Derived.Deep.CutBlock
import Derived.Deep.RegionHeld3
import Derived.Laws.Rows
import Derived.Lib.AppendStr
import Derived.ArgAppend
import Derived.Laws.IdiomCopy
import Derived.OrdersHeld
import Derived.Laws.BitsLemmas
import Derived.RowKit
import Derived.Test.YthefdpioaapomaaDoorWWords
import Derived.Test.YthefdpioaapomaaDoorWLast
import Derived.Test.YthefdpioaapomaaDoorWTab
import Derived.Test.YthefdpioaapomaaDoorWFour
import Derived.Test.YthefdpioaapomaaDoorWQPut
import Derived.Test.YthefdpioaapomaaDoorWApart
import Derived.Test.YthefdpioaapomaaDoorWArr
import Derived.Test.YthefdpioaapomaaDoorWZeros
import Derived.Test.YthefdpioaapomaaDoorWFoot
import Derived.Test.YthefdpioaapomaaDoorWKept
import Derived.Test.YthefdpioaapomaaDoorWShare
import Derived.Test.YthefdpioaapomaaDoorWN
import Derived.Test.YthefdpioaapomaaDoorWFootNe
import Derived.Test.YthefdpioaapomaaDoorWAt
import Derived.Test.YthefdpioaapomaaDoorWEqStruct
import Derived.Test.YthefdpioaapomaaDoorWRepsOne
import Derived.Test.YthefdpioaapomaaDoorWInv
import Derived.Test.YthefdpioaapomaaDoorWInvWords
import Derived.Test.YthefdpioaapomaaDoorWGuard
import Derived.Test.YthefdpioaapomaaDoorWNEv
import Derived.Test.YthefdpioaapomaaDoorWMore
namespace Go.Proofs.YthefdpioaapomaaDoor.PJ
open Go.RowKit Go.Proofs.YthefdpioaapomaaDoorW.PrintWords Go.Proofs.YthefdpioaapomaaDoorW.PrintLast Go.Proofs.YthefdpioaapomaaDoor.Ext Go.Proofs.YthefdpioaapomaaDoorW.PrintMore
attribute [local go_sem] max2_int min2_int max_two min_two max_three min_three max_four min_four   -- for this text's walks alone
set_option linter.unusedVariables false
set_option linter.unusedSimpArgs false



def errW : Option Int → Value
  | none => .nilIface
  | some c => .iface 0 (.int .i64 c)
theorem errW_none : errW none = .nilIface := rfl
theorem errW_some (c : Int) : errW (some c) = .iface 0 (.int .i64 c) := rfl

theorem info9 : (Tryd.prog.info? 9).map (fun i => (i.zero, i.size, i.bytes)) = some (some (.string ⟨#[]⟩), 1, 16) := by kernel_rfl
-- the values' own types

end Go.Proofs.YthefdpioaapomaaDoor.PJ
