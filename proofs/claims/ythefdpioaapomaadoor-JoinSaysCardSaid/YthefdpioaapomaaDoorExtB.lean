/- The document's own 'Blank', walked: a text's bytes, each blank-sign a blank. -/
import Derived.Test.YthefdpioaapomaaDoorExtA
import Derived.WalkSpells
import Derived.WalkLawsBesides
namespace Go.Proofs.YthefdpioaapomaaDoor.Ext
set_option linter.unusedVariables false
set_option linter.unusedSimpArgs false
open Go.RowKit Go.Proofs.YthefdpioaapomaaDoorW.PrintWords Go.Proofs.YthefdpioaapomaaDoorW.PrintLast Go.Proofs.YthefdpioaapomaaDoorW.PrintMore

def blankC (b : UInt8) : UInt8 := if b = 95 then 32 else b
def blankB (s : ByteArray) : ByteArray := ⟨(s.data.toList.map blankC).toArray⟩
/-- Byte j of the row when k bytes are done. -/
def blankAt (s : ByteArray) (k j : Nat) : Int := if j < k then ((blankC (s.data.toList.getD j 0)).toNat : Int) else ((s.data.toList.getD j 0).toNat : Int)
theorem blankAt_zero (s : ByteArray) (j : Nat) : blankAt s 0 j = ((s.data.toList.getD j 0).toNat : Int) := by simp [blankAt]
theorem blankAt_self (s : ByteArray) (k : Nat) : blankAt s k k = ((s.data.toList.getD k 0).toNat : Int) := by simp [blankAt]
theorem blankAt_other (s : ByteArray) (k j : Nat) (h : j ≠ k) : blankAt s (k + 1) j = blankAt s k j := by
  unfold blankAt
  by_cases h1 : j < k
  · rw [if_pos h1, if_pos (by omega)]
  · rw [if_neg h1, if_neg (by omega)]
theorem blankAt_hit (s : ByteArray) (k : Nat) (h : (blankAt s k k == 95) = true) : blankAt s (k + 1) k = 32 := by
  rw [blankAt_self] at h
  have e : (s.data.toList.getD k 0).toNat = 95 := by have := beq_iff_eq.1 h; omega
  have e2 : s.data.toList.getD k 0 = 95 := UInt8.toNat_inj.1 e
  unfold blankAt
  rw [if_pos (by omega), e2]
  rfl
theorem blankAt_miss (s : ByteArray) (k : Nat) (h : (blankAt s k k == 95) = false) : blankAt s (k + 1) k = blankAt s k k := by
  have h2 := beq_eq_false_iff_ne.1 h
  rw [blankAt_self] at h2 ⊢
  have e2 : ¬ s.data.toList.getD k 0 = 95 := fun e => h2 (by rw [e]; rfl)
  unfold blankAt
  rw [if_pos (by omega)]
  unfold blankC
  rw [if_neg e2]
structure BlankW (s : ByteArray) (B k : Nat) (wr : World) : Prop where
  cell : ∀ j, j < s.size → wr.cell? ⟨B, j, none⟩ = some (.int .u8 (blankAt s k j))
  frozen : ∀ j, j < s.size → wr.frozen? ⟨B, j, none⟩ = false
theorem BlankW.start (w : World) (s : ByteArray) : BlankW s w.heap.size 0 (Lib.bytesWorld w 5 s) :=
  ⟨fun j hj => by rw [blankAt_zero]; exact Lib.bytesWorld_cell w 5 s j hj, fun j hj => by
    unfold World.frozen?
    rw [Lib.bytesWorld_at_new]
    have h1 : s.size ≤ (Lib.bytesCells w 5 s).size := by
      have h2 : s.data.size = s.size := rfl
      unfold Lib.bytesCells
      rw [Array.size_append, Array.size_map, h2]
      omega
    simp
    omega⟩
theorem BlankW.hit {s : ByteArray} {B k : Nat} {wr : World} (hW : BlankW s B k wr) (hk : k < s.size) (hv : (blankAt s k k == 95) = true) : BlankW s B (k + 1) (wr.setCell ⟨B, k, none⟩ (.int .u8 32)) :=
  ⟨fun j hj => by
    by_cases e : j = k
    · subst e
      rw [blankAt_hit s j hv]
      exact World.cell?_setCell_same _ _ _ (hW.cell j hj)
    · rw [blankAt_other s k j e]
      exact (World.cell?_setCell_other _ _ _ _ (by intro h; injection h with _ h; exact e h.symm)).trans (hW.cell j hj), fun j hj => by
    rw [World.frozen?_setCell]
    exact hW.frozen j hj⟩
theorem BlankW.miss {s : ByteArray} {B k : Nat} {wr : World} (hW : BlankW s B k wr) (hv : (blankAt s k k == 95) = false) : BlankW s B (k + 1) wr :=
  ⟨fun j hj => by
    by_cases e : j = k
    · subst e
      rw [blankAt_miss s j hv]
      exact hW.cell j hj
    · rw [blankAt_other s k j e]
      exact hW.cell j hj, hW.frozen⟩
theorem bytesWorld_below (w : World) (e : TypeId) (s : ByteArray) : Below w.heap.size w (Lib.bytesWorld w e s) :=
  ⟨by unfold Lib.bytesWorld World.freeze; split <;> rfl, by unfold Lib.bytesWorld World.freeze; split <;> rfl, by unfold Lib.bytesWorld World.freeze; split <;> rfl, by rw [Lib.bytesWorld_size]; omega, fun k hk => Lib.bytesWorld_at_old w e s k hk⟩
theorem blankB_length (s : ByteArray) : (blankB s).data.toList.length = s.size := by
  have h := Lib.size_eq s
  simp only [blankB, List.length_map]
  exact h.symm

theorem BlankW.conv {s : ByteArray} {B cap : Nat} {wr : World} (hW : BlankW s B s.size wr) : (convert 86 9 (.slice (some ⟨B, 0, none⟩) s.size cap)).run Tryd.prog wr = .ok (.string (blankB s)) wr := by
  have hl := blankB_length s
  have hcv := run_convert_bytes_arg wr (P := Tryd.prog) 86 5 Tryd.underlying86 Tryd.underlying5 B 0 s.size cap ((blankB s).data.toList.map fun b => (b.toNat : Int)) (by rw [List.length_map, hl]) (fun i hi => by
    have hi' : i < s.size := hi
    rw [Nat.zero_add, hW.cell i hi']
    unfold blankAt
    rw [if_pos hi']
    have h2 : i < s.data.toList.length := by rw [← Lib.size_eq]; exact hi'
    simp only [blankB, List.getD_eq_getElem?_getD, List.getElem?_map, List.getElem?_eq_getElem h2, Option.map_some, Option.getD_some]
    ) 9 Tryd.underlying9
  have hst : strOfNums ((blankB s).data.toList.map fun b => (b.toNat : Int)) = blankB s := by
    simp [strOfNums, blankB, Function.comp_def]
  rw [hst] at hcv
  exact hcv
def cubitref6_Blank.f (a0 : ByteArray) : Option ByteArray := if a0.size ≤ 9223372036854775807 then some (blankB a0) else none
set_option maxHeartbeats 1000000 in
theorem blank_any (s : ByteArray) (w : World) (hs : s.size ≤ 9223372036854775807) :
    Calls Tryd.prog 27 #[.string s] w fun e w' => e = .returned (.string (blankB s)) ∧ Below w.heap.size w w' := by
  obtain ⟨wb, hwb⟩ : ∃ wb, wb = Lib.bytesWorld w 5 s := ⟨_, rfl⟩
  have hconv := Lib.run_convert_string_bytes (P := Tryd.prog) w 9 86 5 s Tryd.underlying9 Tryd.underlying86 Tryd.underlying5
  rw [← hwb] at hconv
  generalize grownCap w s.size 0 5 = cap at hconv
  have HB := Lib.hid (show Below w.heap.size w wb by rw [hwb]; exact bytesWorld_below w _ s)
  have HW := Lib.hid (show BlankW s w.heap.size 0 wb by rw [hwb]; exact BlankW.start w s)
  clear hwb
  go_enter Tryd.func27, Tryd.ntmps27
  go_wp2
  clear hconv
  go_loopw [4] (fun i wr => ∃ k : Nat, k ≤ s.size ∧ i = .int .i64 k ∧ Aside0 (Below w.heap.size w wr) ∧ Aside0 (BlankW s w.heap.size k wr)) (fun i _ => s.size - (intOf i).toNat)
  case atStart => exact ⟨0, Nat.zero_le _, rfl, ⟨HB.out⟩, ⟨HW.out⟩⟩
  case round =>
    obtain ⟨k, hk, rfl, hB, hW⟩ := hrel
    clear HB HW
    by_cases hlt : k < s.size
    · have hc := hW.out.cell k hlt
      have hf := hW.out.frozen k hlt
      have hH := Lib.hid (hW.out.hit hlt)
      have hM := Lib.hid (hW.out.miss)
      clear hW
      generalize blankAt s k k = v at hc hH hM
      cases hv : (v == 95) with
      | true =>
        go_wp2
        go_roundw
        case rel => exact ⟨k + 1, by omega, by go_num, ⟨hB.out.setCell (Nat.le_refl _) _⟩, ⟨hH.out hv⟩⟩
        case measure => simp [intOf]; omega
      | false =>
        go_wp2
        go_roundw
        case rel => exact ⟨k + 1, by omega, by go_num, hB, ⟨hM.out hv⟩⟩
        case measure => simp [intOf]; omega
    · obtain rfl : k = s.size := by omega
      have hcv := hW.out.conv (cap := cap)
      go_wp2
      go_ret
      exact ⟨rfl, hB.out⟩
theorem cubitref6_Blank.calls (a0 : ByteArray) (r : ByteArray) (w : World) (h : cubitref6_Blank.f a0 = some r) (hG : Glob w) :
    Calls Tryd.prog 27 #[.string a0] w fun e w' => e = .returned (.string r) ∧ Below w.heap.size w w' := by
  unfold cubitref6_Blank.f at h
  split at h
  · rename_i hs
    obtain rfl := Option.some.inj h
    exact blank_any a0 w hs
  · cases h
end Go.Proofs.YthefdpioaapomaaDoor.Ext
