/- strconv.Itoa of a number below a hundred, as the printed walks want it. -/
import Derived.Test.YthefdpioaapomaaDoorExtA
import Derived.Sort.Walk0
namespace Go.Proofs.YthefdpioaapomaaDoor.Ext
open Go.RowKit Go.Proofs.YthefdpioaapomaaDoorW.PrintWords Go.Proofs.YthefdpioaapomaaDoorW.PrintLast
def strconv_Itoa.f (a0 : Int) : Option ByteArray := if 0 ≤ a0 then (if a0 < 100 then some ⟨(Lib.decDigits a0.toNat).toArray⟩ else none) else none
theorem strconv_Itoa.calls (a0 : Int) (r : ByteArray) (w : World) (h : strconv_Itoa.f a0 = some r) (_hG : Glob w) :
    Calls Tryd.prog 79 #[.int .i64 a0] w fun e w' => e = .returned (.string r) ∧ Drawn0 w w' := by
  unfold strconv_Itoa.f at h
  split at h
  · split at h
    · rename_i h0 h1
      obtain rfl := Option.some.inj h
      obtain ⟨n, rfl⟩ := Int.eq_ofNat_of_zero_le h0
      refine (Tryd.strconv_Itoa_small n (by omega) w).mono ?_
      rintro e w' ⟨rfl, rfl⟩
      exact ⟨rfl, Drawn0.refl _⟩
    · cases h
  · cases h
/-- Of two texts, one less than the other: they are unlike; none less: alike. -/
theorem bl_ne {x y : List UInt8} (h : Op.bytesLess y x = true) : (x == y) = false := by
  rw [bytesLess_eq, decide_eq_true_eq] at h
  rw [beq_eq_false_iff_ne]
  rintro rfl
  exact List.lt_irrefl _ h
theorem bl_eq {x y : List UInt8} (h : Op.bytesLess x y = false) (h2 : Op.bytesLess y x = false) : (x == y) = true := by
  rw [bytesLess_eq, decide_eq_false_iff_not] at h h2
  rw [beq_iff_eq]
  exact List.le_antisymm (List.not_lt.1 h2) (List.not_lt.1 h)
end Go.Proofs.YthefdpioaapomaaDoor.Ext
