/- strconv.Atoi and Itoa at any text, any int, as the walks of layer 22 use them. -/
import Derived.Test.YthefdpioaapomaaGreatDoorExtA
import Derived.Lib.AtoiAllCases
import Derived.Lib.ConvBytes
import Derived.Lib.AppendIntMem
namespace Go.Proofs.YthefdpioaapomaaGreatDoor.Ext
set_option linter.unusedVariables false
set_option linter.unusedSimpArgs false
open Go.RowKit Go.Proofs.YthefdpioaapomaaGreatDoorW.PrintWords Go.Proofs.YthefdpioaapomaaGreatDoorW.PrintLast

/-- The int that a text spells. -/
def atoiV (s : ByteArray) : Option Int := match Lib.atoiAll s.data.toList with
  | .ok v => some v
  | _ => none
def itoaV (v : Int) : ByteArray := ⟨(Lib.itoa v).toArray⟩
theorem atoiV_ok {s : ByteArray} {v : Int} (h : atoiV s = some v) : Lib.atoiAll s.data.toList = .ok v := by
  unfold atoiV at h
  split at h
  · rename_i x hx
    rw [hx, Option.some.inj h]
  · cases h
theorem bytesWorld_belowZ (w : World) (e : TypeId) (s : ByteArray) : Below w.heap.size w (Lib.bytesWorld w e s) :=
  ⟨by unfold Lib.bytesWorld World.freeze; split <;> rfl, by unfold Lib.bytesWorld World.freeze; split <;> rfl, by unfold Lib.bytesWorld World.freeze; split <;> rfl, by rw [Lib.bytesWorld_size]; omega, fun k hk => Lib.bytesWorld_at_old w e s k hk⟩
theorem atoi_ok (s : ByteArray) (v : Int) (h : atoiV s = some v) (hs : s.size ≤ 281474976710656) (w : World) (hG : Glob w) :
    Calls Tryz.prog 45 #[.string s] w fun e w' => e = .returned (.tuple #[.int .i64 v, .nilIface]) ∧ Below w.heap.size w w' := by
  refine (Tryz.strconv_Atoi_ok s (by omega) v (atoiV_ok h) w).mono ?_
  rintro e w' ⟨rfl, rfl | ⟨t, rfl⟩⟩
  · exact ⟨rfl, Below.refl _ _⟩
  · exact ⟨rfl, bytesWorld_belowZ w _ t⟩
theorem atoi_bad (s : ByteArray) (h : atoiV s = none) (hs : s.size ≤ 281474976710656) (w : World) (hG : Glob w) :
    Calls Tryz.prog 45 #[.string s] w fun e w' => ∃ (v : Int) (N : Nat), e = .returned (.tuple #[.int .i64 v, .iface 104 (.pointer (some ⟨N, 0, none⟩))]) ∧ Below w.heap.size w w' := by
  obtain ⟨e1, h1, h1'⟩ := hG.syn
  obtain ⟨e2, h2, h2'⟩ := hG.rng
  unfold atoiV at h
  rcases hc : Lib.atoiAll s.data.toList with v | _ | _
  · rw [hc] at h; cases h
  · refine (Any.strconv_Atoi_syntax Tryz.laysC172 s hs hc e1 w h1 h1').mono ?_
    rintro e w' ⟨N, rfl, _, _, hb⟩
    exact ⟨_, N, rfl, hb⟩
  · refine (Tryz.strconv_Atoi_range s hs hc e2 w h2 h2').mono ?_
    rintro e w' ⟨N, rfl, _, _, hb⟩
    exact ⟨_, N, rfl, hb⟩
theorem atoi_any (s : ByteArray) (hs : s.size ≤ 281474976710656) (w : World) (hG : Glob w) :
    Calls Tryz.prog 45 #[.string s] w fun e w' => ∃ (v : Int) (ev : Value), e = .returned (.tuple #[.int .i64 v, ev]) ∧ Below w.heap.size w w' := by
  cases h : atoiV s with
  | some v =>
    refine (atoi_ok s v h hs w hG).mono ?_
    rintro e w' ⟨rfl, hb⟩
    exact ⟨_, _, rfl, hb⟩
  | none =>
    refine (atoi_bad s h hs w hG).mono ?_
    rintro e w' ⟨v, N, rfl, hb⟩
    exact ⟨_, _, rfl, hb⟩
theorem itoa_any (v : Int) (s : ByteArray) (hv : atoiV s = some v) (w : World) (hG : Glob w) :
    Calls Tryz.prog 46 #[.int .i64 v] w fun e w' => e = .returned (.string (itoaV v)) ∧ Below w.heap.size w w' := by
  obtain ⟨h0, h1⟩ := Lib.atoiAll_bounds (atoiV_ok hv)
  refine (Tryz.strconv_Itoa v h0 h1 w hG.tab).mono ?_
  rintro e w' ⟨rfl, k, os, rfl⟩
  exact ⟨rfl, Lib.below_grow _ w (Nat.le_refl _) k os⟩
end Go.Proofs.YthefdpioaapomaaGreatDoor.Ext
