/- Seat ZD: a world for the witness, with all that the rows list; what the walks want of a world, out of the row's own conditions. -/
import Derived.Test.YthefdpioaapomaaGreatDoorLaid
import Derived.Stop.LaidErr
import Derived.Lib.LaidU8
import Derived.ChangeOld
import Derived.Below
import Derived.SizedLaws
namespace Go.Proofs.YthefdpioaapomaaGreatDoor.Laid
open Go.ChangeShapes Go.WideShapes Go.ChangeAt Go.RowKit Go.Proofs.YthefdpioaapomaaGreatDoorW.PrintWords
theorem laidOut : laidOutB Tryz.prog = true := by kernel_rfl
def d32 : List Int := [0, 1, 28, 2, 29, 14, 24, 3, 30, 22, 20, 15, 25, 17, 4, 8, 31, 27, 13, 23, 21, 19, 16, 7, 26, 12, 18, 6, 11, 5, 10, 9]
def d64 : List Int := [0, 1, 56, 2, 57, 49, 28, 3, 61, 58, 42, 50, 38, 29, 17, 4, 62, 47, 59, 36, 45, 43, 51, 22, 53, 39, 33, 30, 24, 18, 12, 5, 63, 55, 48, 27, 60, 41, 37, 16, 46, 35, 44, 21, 52, 32, 23, 11, 54, 26, 40, 15, 34, 20, 31, 10, 25, 14, 19, 9, 13, 8, 7, 6]
def p10 : List Int := [1, 10, 100, 1000, 10000, 100000, 1000000, 10000000, 100000000, 1000000000, 10000000000, 100000000000, 1000000000000, 10000000000000, 100000000000000, 1000000000000000, 10000000000000000, 100000000000000000, 1000000000000000000, 10000000000000000000]
/-- Two blocks behind the variables hold the errors' texts. -/
noncomputable def laidWorldZ (os : Os) : World :=
  let w0 := laidWorld os
  let put (h : Array Obj) (g : Nat) (cs : Array Value) : Array Obj := h.modify g fun
    | .cells _ t frozen => .cells cs t frozen
    | o => o
  let n := w0.heap.size
  let h1 := put w0.heap 6 (d32.map fun z => Value.int .u8 z).toArray
  let h2 := put h1 7 (d64.map fun z => Value.int .u8 z).toArray
  let h3 := put h2 5 (p10.map fun z => Value.int .u64 z).toArray
  let h4 := put h3 3 #[.iface 133 (.pointer (some ⟨n, 0, none⟩))]
  let h5 := put h4 4 #[.iface 133 (.pointer (some ⟨n + 1, 0, none⟩))]
  let h6 := (h5.push (.cells #[.string ⟨#[105, 110, 118, 97, 108, 105, 100, 32, 115, 121, 110, 116, 97, 120]⟩] 135)).push (.cells #[.string ⟨#[118, 97, 108, 117, 101, 32, 111, 117, 116, 32, 111, 102, 32, 114, 97, 110, 103, 101]⟩] 135)
  { w0 with heap := h6 }
/-- The row's list of variables. -/
abbrev listZ : List (String × DataW Unit) := [("math/bits.deBruijn32tab", Rows.laid_math_bits_deBruijn32tab), ("math/bits.deBruijn64tab", Rows.laid_math_bits_deBruijn64tab), ("internal/strconv.uint64pow10", Rows.laid_internal_strconv_uint64pow10), ("unicode/utf8.acceptRanges", Rows.laid_unicode_utf8_acceptRanges), ("strconv.ErrRange", Rows.laid_strconv_ErrRange), ("strconv.ErrSyntax", Rows.laid_strconv_ErrSyntax), ("unicode/utf8.first", Rows.laid_unicode_utf8_first)]
theorem star : "*" ++ "errors.errorString" = "*errors.errorString" := by decide
theorem rowE (u : TypeId) (h : Tryz.prog.typeName? 3 u = some "*errors.errorString") : u = 133 :=
  typeName_ptr_named (nm := "errors.errorString") (by rw [star]; kernel_rfl) (by kernel_rfl) (by decide) u (by rw [star]; exact h)
theorem globZ {W : World} (h : W.ShapedOpen Tryz.prog) (hL : laidMet Tryz.prog listZ W) : Ext.Glob W := by
  have hp : laidMet Tryz.prog (("internal/strconv.uint64pow10", Lib.tabData .u64 Lib.pow10Tab) :: listZ.drop 3) W := hL.tail.tail
  have ht := Lib.tabIs_of_head (g := 5) (by kernel_rfl) (by kernel_rfl) Tryz.underlying137 Tryz.underlying117 (by kernel_rfl) (by kernel_rfl) hp
  obtain ⟨a1, s1, hv1, hc1, _⟩ := laid_sentinel (g := 4) hL.tail.tail.tail.tail (by kernel_rfl) (by kernel_rfl) Tryz.underlying57 rowE Tryz.underlying133 Tryz.underlying135 rfl rfl Tryz.underlying9 (by kernel_rfl) (by kernel_rfl)
  obtain ⟨a0, s0, hv0, hc0, _⟩ := laid_sentinel (g := 3) hL.tail.tail.tail.tail.tail (by kernel_rfl) (by kernel_rfl) Tryz.underlying57 rowE Tryz.underlying133 Tryz.underlying135 rfl rfl Tryz.underlying9 (by kernel_rfl) (by kernel_rfl)
  have k0 := World.var?_cell (g := 3) (by kernel_rfl) hv0 0
  have k1 := World.var?_cell (g := 4) (by kernel_rfl) hv1 0
  exact ⟨Tryz.laysM146.s1_3 W h, ⟨_, by simpa using k0, .inr ⟨_, _, rfl⟩⟩, ⟨_, by simpa using k1, .inr ⟨_, _, rfl⟩⟩, ht⟩
end Go.Proofs.YthefdpioaapomaaGreatDoor.Laid
