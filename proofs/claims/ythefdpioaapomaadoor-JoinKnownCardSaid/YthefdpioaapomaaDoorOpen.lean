/- A row of strings that came in, as the walk wants it. -/
import Derived.Test.YthefdpioaapomaaDoorLaid
import Derived.SliceStrings
import Derived.ChangeOld
import Derived.Below
import Derived.SizedLaws
namespace Go.Proofs.YthefdpioaapomaaDoor.Laid
open Go.ChangeShapes Go.WideShapes Go.ChangeAt Go.RowKit Go.Proofs.YthefdpioaapomaaDoorW.PrintWords
theorem laidOut : laidOutB Tryd.prog = true := by kernel_rfl
theorem open_strs {H : Type} {enc : TypeId × Value → H} {W : World} {base : Nat} {sp : Nat → Bool} {held : Bool} {a : Option Addr} {len cap : Nat} {d : DataW H} {p : List MemPlace}
    (h : DataW.Trod enc Tryd.prog W base sp held 29 (.slice a len cap) d p) : ∃ l : List ByteArray, l.length = len ∧ len ≤ cap ∧ Kd.C Kd.string W a l.length l := by
  obtain ⟨fuel, hf⟩ := h
  rcases open_strings Tryd.underlying29 Tryd.underlying9 (by kernel_rfl) hf with ⟨hcs, _⟩ | ⟨x, len', cap', ss, hcs, _, hl, hm, hz, _, hcell, _⟩
  · simp [Value.cells] at hcs
    obtain ⟨rfl, rfl, rfl⟩ := hcs
    exact ⟨[], rfl, Nat.le_refl _, rfl, by decide, fun h => absurd h (by simp)⟩
  · simp [Value.cells] at hcs
    obtain ⟨rfl, rfl, rfl⟩ := hcs
    have hss : len ≤ ss.length := by rw [hz]; split <;> omega
    have hlen : (ss.take len).length = len := by rw [List.length_take]; omega
    refine ⟨ss.take len, hlen, hl, rfl, by rw [hlen]; unfold maxLen at hm; omega, fun h0 => ⟨x, rfl, fun j y hy => ⟨[.string y], rfl, rfl, fun i v hv => ?_⟩⟩⟩
    have hj : j < (ss.take len).length := (List.getElem?_eq_some_iff.1 hy).1
    rw [hlen] at hj
    rw [List.getElem?_take_of_lt hj] at hy
    cases i with
    | zero =>
      obtain rfl := Option.some.inj hv
      have hc := hcell j (by omega)
      have hy' : ss.getD j ByteArray.empty = y := by rw [List.getD_eq_getElem?_getD, hy]; rfl
      rw [hy'] at hc
      simpa [Kd.string, Kd.scalar, Addr.add] using hc
    | succ i => simp at hv
end Go.Proofs.YthefdpioaapomaaDoor.Laid
