/- Rows that came in (a slice of rows.Row). -/
import Derived.Test.YthefdpioaapomaaGreatDoorLaid
import Derived.Deep.SlicePairs
import Derived.SliceStrings
import Derived.Test.YthefdpioaapomaaGreatDoorPA1
namespace Go.Proofs.YthefdpioaapomaaGreatDoor.Laid
set_option linter.unusedVariables false
set_option linter.unusedSimpArgs false
open Go.ChangeShapes Go.WideShapes Go.ChangeAt Go.RowKit Go.Proofs.YthefdpioaapomaaGreatDoorW.PrintWords Go.Proofs.YthefdpioaapomaaGreatDoor.PA
theorem strsR {H : Type} {enc : TypeId × Value → H} {W : World} {base : Nat} {sp : Nat → Bool} {held : Bool} {n : Nat} {cs : List Value} {y : DataW H × List MemPlace}
    (hf : DataW.trod enc Tryz.prog W base sp held n 23 cs = some y) : ∃ (A : Option Addr) (l : List ByteArray) (c : Nat), cs = [.slice A l.length c] ∧ l.length ≤ c ∧ Kd.C Kd.string W A l.length l ∧ ∀ s ∈ l, s.size ≤ maxLen := by
  rcases open_strings Tryz.underlying23 Tryz.underlying9 (by kernel_rfl) hf with ⟨hcs, _⟩ | ⟨x, len, cap, ss, hcs, _, hl, hm, hz, _, hcell, hmax⟩
  · exact ⟨none, [], 0, hcs, Nat.le_refl _, ⟨rfl, by decide, fun h => absurd h (by simp)⟩, by simp⟩
  · have hss : len ≤ ss.length := by rw [hz]; split <;> omega
    have hlen : (ss.take len).length = len := by rw [List.length_take]; omega
    refine ⟨some x, ss.take len, cap, by rw [hlen, hcs], by rw [hlen]; exact hl, ⟨rfl, by rw [hlen]; unfold maxLen at hm; omega, fun h0 => ⟨x, rfl, fun j y hy => ⟨[.string y], rfl, rfl, fun i v hv => ?_⟩⟩⟩, fun s hs => hmax s ((List.take_sublist _ _).subset hs)⟩
    have hj : j < (ss.take len).length := (List.getElem?_eq_some_iff.1 hy).1
    rw [hlen] at hj
    rw [List.getElem?_take_of_lt hj] at hy
    cases i with
    | zero =>
      obtain rfl := Option.some.inj hv
      have hc := hcell j (by omega)
      have hy' : ss.getD j ByteArray.empty = y := by rw [List.getD_eq_getElem?_getD, hy]; rfl
      rw [hy'] at hc
      simpa [Kd.string, Kd.scalar, Addr.add] using hc
    | succ i => simp at hv
set_option maxRecDepth 100000 in
theorem open_rows {H : Type} {enc : TypeId × Value → H} {W : World} {base : Nat} {sp : Nat → Bool} {held : Bool} {a : Option Addr} {len cap : Nat} {d : DataW H} {p : List MemPlace}
    (h : DataW.Trod enc Tryz.prog W base sp held 37 (.slice a len cap) d p) : ∃ l : List S41, l.length = len ∧ len ≤ cap ∧ Kd.C k41 W a l.length l ∧ ∀ r ∈ l, ∀ s ∈ r.f1, s.size ≤ maxLen := by
  obtain ⟨fuel, hf⟩ := h
  rcases Go.Deep.open_slice_pairs Tryz.underlying37 Tryz.underlying41 (by kernel_rfl) rfl rfl (by kernel_rfl) (by kernel_rfl) hf with ⟨hcs, _⟩ | ⟨x, ln, cp, m, n, V0, V1, D0, D1, P0, P1, hcs, _, hl, hm, hmm, _, hx⟩
  · simp [Value.cells] at hcs
    obtain ⟨rfl, rfl, rfl⟩ := hcs
    exact ⟨[], rfl, Nat.le_refl _, ⟨rfl, by decide, fun h => absurd h (by simp)⟩, by simp⟩
  · simp [Value.cells] at hcs
    obtain ⟨rfl, rfl, rfl⟩ := hcs
    have hlm : len ≤ m := by rw [hmm]; split <;> omega
    have each : ∀ i, i < len → ∃ r : S41, (∃ (A1 : Option Addr) (c1 : Nat), W.cell? (x.add (i * 2)) = some (.int .i64 r.f0) ∧ W.cell? (x.add (i * 2 + 1)) = some (.slice A1 r.f1.length c1) ∧ r.f1.length ≤ c1 ∧ Kd.C Kd.string W A1 r.f1.length r.f1) ∧ ∀ s ∈ r.f1, s.size ≤ maxLen := by
      intro i hi
      obtain ⟨h0, h1, t0, t1⟩ := hx i (by omega)
      obtain ⟨z, e0, _⟩ := DataW.trod_int Tryz.underlying3 t0
      obtain ⟨A1, l1, c1, e1, g1, C1, m1⟩ := strsR t1
      have e0' := List.cons.inj e0
      have e1' := List.cons.inj e1
      rw [e0'.1] at h0
      rw [e1'.1] at h1
      exact ⟨⟨z, l1⟩, ⟨A1, c1, h0, h1, g1, C1⟩, m1⟩
    haveI : Inhabited S41 := ⟨z41⟩
    obtain ⟨q, hq⟩ := Go.Deep.choose_lt each
    refine ⟨(List.range len).map q, by simp, hl, ⟨by simp, by simp; unfold maxLen at hm; omega, fun h0 => ⟨x, rfl, fun j y hy => ?_⟩⟩, ?_⟩
    · rw [List.getElem?_map] at hy
      obtain ⟨j', hj', rfl⟩ := Option.map_eq_some_iff.1 hy
      obtain ⟨hj, hjj⟩ := List.getElem?_eq_some_iff.1 hj'
      rw [List.getElem_range] at hjj
      subst hjj
      rw [List.length_range] at hj
      obtain ⟨⟨A1, c1, h0, h1, g1, C1⟩, _⟩ := hq j hj
      refine ⟨[.int .i64 (q j).f0, .slice A1 (q j).f1.length c1], rfl, k41_mk W (q j) g1 C1, fun i v hv => ?_⟩
      match i, hv with
      | 0, hv => obtain rfl := Option.some.inj hv; exact h0
      | 1, hv => obtain rfl := Option.some.inj hv; exact h1
    · intro r hr
      obtain ⟨i, hi, rfl⟩ := List.mem_map.1 hr
      exact (hq i (List.mem_range.1 hi)).2
end Go.Proofs.YthefdpioaapomaaGreatDoor.Laid
