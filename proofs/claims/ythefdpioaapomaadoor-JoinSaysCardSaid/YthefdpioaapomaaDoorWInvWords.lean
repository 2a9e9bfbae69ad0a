import Derived.Test.YthefdpioaapomaaDoorWInv
import Derived.Test.YthefdpioaapomaaDoorWFootNe
namespace Go.Proofs.YthefdpioaapomaaDoorW.PrintWords
open Go.RowKit
end Go.Proofs.YthefdpioaapomaaDoorW.PrintWords
namespace Go.Proofs.YthefdpioaapomaaDoorW.PrintLast
section
variable {ops : Array Oper} {a : Act} {o og : Oper} {g : Nat} {t : Tmp} {u : Bool}
end
end Go.Proofs.YthefdpioaapomaaDoorW.PrintLast
