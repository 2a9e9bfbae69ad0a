/- A key of layer 22 that came in (six strings). -/
import Derived.Test.YthefdpioaapomaaGreatDoorLaid
import Derived.Test.YthefdpioaapomaaGreatDoorWordK
import Derived.Deep.Strs
namespace Go.Proofs.YthefdpioaapomaaGreatDoor.Laid
set_option linter.unusedVariables false
set_option linter.unusedSimpArgs false
open Go.ChangeShapes Go.WideShapes Go.ChangeAt Go.RowKit Go.Proofs.YthefdpioaapomaaGreatDoorW.PrintWords Go.Proofs.YthefdpioaapomaaGreatDoor.Ext
set_option maxRecDepth 100000 in
theorem open_key {H : Type} {enc : TypeId × Value → H} {W : World} {base b0 : Nat} {r : Reach} {sp : Nat → Bool} {held : Bool} {v : Value} {d : DataW H} {p : List MemPlace}
    (hv : Value.okWide Tryz.prog W r b0 32 v) (h : DataW.Trod enc Tryz.prog W base sp held 32 v d p) : ∃ (x0 x1 x2 x3 x4 x5 : ByteArray), v = .agg #[.string x0, .string x1, .string x2, .string x3, .string x4, .string x5] ∧ SmallK ⟨x0, x1, x2, x3, x4, x5⟩ := by
  obtain ⟨cs, rfl, _⟩ := okWide_struct Tryz.underlying32 hv
  obtain ⟨fuel, hf⟩ := h
  have hc9 : Tryz.prog.cellsOf 9 = 1 := by kernel_rfl
  have hcK : Tryz.prog.cellsOf 32 = 6 := by kernel_rfl
  obtain ⟨xs, n, _, _, hl, hlen, hF⟩ := DataW.trod_struct Tryz.underlying32 hf
  have hcs : (Value.agg cs).cells = cs := by simp [Value.cells]
  rw [hcs] at hl hF
  rw [hcK] at hl
  match xs, hlen with
  | [y0, y1, y2, y3, y4, y5], _ =>
    obtain ⟨s0, e0, _, z0⟩ := DataW.trod_string Tryz.underlying9 (hF 0 _ rfl)
    obtain ⟨s1, e1, _, z1⟩ := DataW.trod_string Tryz.underlying9 (hF 1 _ rfl)
    obtain ⟨s2, e2, _, z2⟩ := DataW.trod_string Tryz.underlying9 (hF 2 _ rfl)
    obtain ⟨s3, e3, _, z3⟩ := DataW.trod_string Tryz.underlying9 (hF 3 _ rfl)
    obtain ⟨s4, e4, _, z4⟩ := DataW.trod_string Tryz.underlying9 (hF 4 _ rfl)
    obtain ⟨s5, e5, _, z5⟩ := DataW.trod_string Tryz.underlying9 (hF 5 _ rfl)
    replace e0 : (cs.toList.drop 0).take (Tryz.prog.cellsOf 9) = [.string s0] := e0
    replace e1 : (cs.toList.drop 1).take (Tryz.prog.cellsOf 9) = [.string s1] := e1
    replace e2 : (cs.toList.drop 2).take (Tryz.prog.cellsOf 9) = [.string s2] := e2
    replace e3 : (cs.toList.drop 3).take (Tryz.prog.cellsOf 9) = [.string s3] := e3
    replace e4 : (cs.toList.drop 4).take (Tryz.prog.cellsOf 9) = [.string s4] := e4
    replace e5 : (cs.toList.drop 5).take (Tryz.prog.cellsOf 9) = [.string s5] := e5
    rw [hc9] at e0 e1 e2 e3 e4 e5
    refine ⟨s0, s1, s2, s3, s4, s5, ?_, z0, z1, z2, z3, z4, z5⟩
    congr 1
    apply Array.ext'
    generalize cs.toList = L at hl e0 e1 e2 e3 e4 e5
    match L, hl with
    | [u0, u1, u2, u3, u4, u5], _ =>
      simp at e0 e1 e2 e3 e4 e5
      rw [e0, e1, e2, e3, e4, e5]
end Go.Proofs.YthefdpioaapomaaGreatDoor.Laid
