/- A world for the witness: the settled one, the library's two tables of unicode/utf8 holding what their initialisers lay. -/
import Derived.Test.YthefdpioaapomaaDoorCards
import Derived.Test.YthefdpioaapomaaDoorTie
import Derived.Test.YthefdpioaapomaaDoorExtA
import Derived.WalkKit
import Derived.ProofKit
import Derived.OpenShut
import Derived.Deep.DeepHandedRow
import Derived.Lib.LaidTab
import Derived.Lib.LaidU8
namespace Go.Proofs.YthefdpioaapomaaDoor.Laid
theorem own : ownKnob Tryd.prog.godebug = none := by kernel_rfl
noncomputable def laidWorld (os : Os) : World :=
  let w0 := World.holding Tryd.prog os ⟨#[], #[], []⟩
  let put (h : Array Obj) (g : Nat) (cs : Array Value) : Array Obj := h.modify g fun
    | .cells _ t frozen => .cells cs t frozen
    | o => o
  let h1 := put w0.heap (Tryd.laysM146_ren.g 3) (Lib.firstTab.map fun z => Value.int .u8 z).toArray
  let h2 := put h1 (Tryd.laysM146_ren.g 4) ((List.range 16).flatMap fun i => [Value.int .u8 (Lib.accLo i), Value.int .u8 (Lib.accHi i)]).toArray
  { w0 with heap := h2 }
/-- What the shape of the world gives. -/
theorem glob {W : World} (h : W.ShapedOpen Tryd.prog) : Ext.Glob W := Tryd.laysM146.s1_3 W h
end Go.Proofs.YthefdpioaapomaaDoor.Laid
