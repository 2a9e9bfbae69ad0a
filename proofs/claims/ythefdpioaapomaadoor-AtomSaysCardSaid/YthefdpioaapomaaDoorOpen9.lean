/- An atom that came in; a world for the witness of layer 9: the library's five tables hold what their initialisers lay. -/
import Derived.Test.YthefdpioaapomaaDoorOpen
import Derived.Deep.Strs
namespace Go.Proofs.YthefdpioaapomaaDoor.Laid
open Go.ChangeShapes Go.WideShapes Go.ChangeAt Go.RowKit Go.Proofs.YthefdpioaapomaaDoorW.PrintWords
set_option maxRecDepth 100000 in
theorem open_atom {H : Type} {enc : TypeId × Value → H} {W : World} {base b0 : Nat} {r : Reach} {sp : Nat → Bool} {held : Bool} {v : Value} {d : DataW H} {p : List MemPlace}
    (hv : Value.okWide Tryd.prog W r b0 49 v) (h : DataW.Trod enc Tryd.prog W base sp held 49 v d p) : ∃ (x y : ByteArray) (n : Int), v = .agg #[.string x, .string y, .int .i64 n] := by
  obtain ⟨cs, rfl, _⟩ := okWide_struct Tryd.underlying49 hv
  obtain ⟨fuel, hf⟩ := h
  have hc9 : Tryd.prog.cellsOf 9 = 1 := by kernel_rfl
  have hc3 : Tryd.prog.cellsOf 3 = 1 := by kernel_rfl
  have hc49 : Tryd.prog.cellsOf 49 = 3 := by kernel_rfl
  obtain ⟨y0, y1, y2, n, _, hl, h0, h1, h2⟩ := Go.Deep.trod_struct3 Tryd.underlying49 hf
  obtain ⟨s0, e0, _⟩ := DataW.trod_string Tryd.underlying9 h0
  obtain ⟨s1, e1, _⟩ := DataW.trod_string Tryd.underlying9 h1
  obtain ⟨m, e2, _⟩ := DataW.trod_int Tryd.underlying3 h2
  have hcs : (Value.agg cs).cells = cs := by simp [Value.cells]
  rw [hcs] at hl e0 e1 e2
  rw [hc49] at hl
  replace e0 : (cs.toList.drop 0).take (Tryd.prog.cellsOf 9) = [.string s0] := e0
  replace e1 : (cs.toList.drop 1).take (Tryd.prog.cellsOf 9) = [.string s1] := e1
  replace e2 : (cs.toList.drop 2).take (Tryd.prog.cellsOf 3) = [.int .i64 m] := e2
  rw [hc9] at e0 e1
  rw [hc3] at e2
  refine ⟨s0, s1, m, ?_⟩
  congr 1
  apply Array.ext'
  generalize cs.toList = L at hl e0 e1 e2
  match L, hl with
  | [u0, u1, u2], _ =>
    simp at e0 e1 e2
    rw [e0, e1, e2]
def d32 : List Int := [0, 1, 28, 2, 29, 14, 24, 3, 30, 22, 20, 15, 25, 17, 4, 8, 31, 27, 13, 23, 21, 19, 16, 7, 26, 12, 18, 6, 11, 5, 10, 9]
def d64 : List Int := [0, 1, 56, 2, 57, 49, 28, 3, 61, 58, 42, 50, 38, 29, 17, 4, 62, 47, 59, 36, 45, 43, 51, 22, 53, 39, 33, 30, 24, 18, 12, 5, 63, 55, 48, 27, 60, 41, 37, 16, 46, 35, 44, 21, 52, 32, 23, 11, 54, 26, 40, 15, 34, 20, 31, 10, 25, 14, 19, 9, 13, 8, 7, 6]
def p10 : List Int := [1, 10, 100, 1000, 10000, 100000, 1000000, 10000000, 100000000, 1000000000, 10000000000, 100000000000, 1000000000000, 10000000000000, 100000000000000, 1000000000000000, 10000000000000000, 100000000000000000, 1000000000000000000, 10000000000000000000]
noncomputable def laidWorld9 (os : Os) : World :=
  let w0 := laidWorld os
  let put (h : Array Obj) (g : Nat) (cs : Array Value) : Array Obj := h.modify g fun
    | .cells _ t frozen => .cells cs t frozen
    | o => o
  let h1 := put w0.heap 4 (d32.map fun z => Value.int .u8 z).toArray
  let h2 := put h1 5 (d64.map fun z => Value.int .u8 z).toArray
  let h3 := put h2 3 (p10.map fun z => Value.int .u64 z).toArray
  { w0 with heap := h3 }
end Go.Proofs.YthefdpioaapomaaDoor.Laid
