/- rows.Show, walked: each row's words with a blank between, and a new line. -/
import Derived.Test.YthefdpioaapomaaDoorExtW
import Derived.Test.YthefdpioaapomaaDoorPA0
namespace Go.Proofs.YthefdpioaapomaaDoor.Ext
set_option linter.unusedVariables false
set_option linter.unusedSimpArgs false
open Go.RowKit Go.Proofs.YthefdpioaapomaaDoorW.PrintWords Go.Proofs.YthefdpioaapomaaDoorW.PrintLast Go.Proofs.YthefdpioaapomaaDoorW.PrintMore Go.Proofs.YthefdpioaapomaaDoor.PA

def showLine (r : S31) : ByteArray := joinB r.f1 ⟨#[32]⟩ ++ (⟨#[10]⟩ : ByteArray)
def showGo : List S31 → ByteArray → Option ByteArray
  | [], acc => some acc
  | r :: l, acc => if (strings_Join.f r.f1 ⟨#[32]⟩).isSome = true then (if acc.size + (showLine r).size ≤ 140737488355328 then showGo l (acc ++ showLine r) else none) else none
def rows_Show.f (l0 : List S31) : Option ByteArray := showGo l0 ⟨#[]⟩
theorem join_some {l : List ByteArray} {s : ByteArray} (h : (strings_Join.f l s).isSome = true) : strings_Join.f l s = some (joinB l s) ∧ (joinB l s).size ≤ 140737488355328 := by
  unfold strings_Join.f at h ⊢
  split at h
  · split at h
    · rename_i h1 h2
      rw [if_pos h1, if_pos h2]
      exact ⟨rfl, h1⟩
    · cases h
  · cases h
set_option maxHeartbeats 1000000 in
theorem rows_Show.calls (A0 : Option Addr) (c0 : Nat) (l0 : List S31) (r : ByteArray) (w : World) (hr0 : Kd.C k31 w A0 l0.length l0) (hc0 : l0.length ≤ c0) (h : rows_Show.f l0 = some r) (hG : Glob w) :
    Calls Tryd.prog 21 #[.slice A0 l0.length c0] w fun e w' => e = .returned (.string r) ∧ Below w.heap.size w w' := by
  have hm : l0.length ≤ 9223372036854775807 := hr0.2.1
  have HR := Aside0.mk hr0
  have HG := Aside0.mk hG
  have H := Aside0.mk h
  clear hr0 hG h hc0
  have hu := Tryd.underlying94
  have hu2 := Tryd.underlying31
  go_enter Tryd.func21, Tryd.ntmps21
  go_wp2
  go_loopw [8] (fun i wr => ∃ (k : Nat) (acc : ByteArray), k ≤ l0.length ∧ i = .int .i64 k ∧ Aside0 (showGo (l0.drop k) acc = some r) ∧ Aside0 (Lib.IsBuilderF 94 5 w.heap.size w.heap.size (Lib.byteCells acc.data.toList) wr) ∧ Aside0 (Below w.heap.size w wr)) (fun i _ => l0.length - (intOf i).toNat)
  case atStart => exact ⟨0, ⟨#[]⟩, Nat.zero_le _, rfl, H, ⟨builder_fresh w⟩, ⟨below_alloc (Below.refl _ _) _⟩⟩
  case round =>
    obtain ⟨k, acc, hk, rfl, HS, HI, HB⟩ := hrel
    clear H
    by_cases hlt : k < l0.length
    · have hS := HS.out
      rw [List.drop_eq_getElem_cons hlt] at hS
      have hrd : rd_T31 l0 (k : Int) = l0[k] := by simp [rd_T31, hlt]
      obtain ⟨ad, A1, c1, rfl, hx0, hx1, hc1, hC⟩ := at_T31 HR.out (k : Int) (by omega) (by omega)
      rw [hrd] at hx0 hx1 hc1 hC
      rw [Int.toNat_natCast] at hx0 hx1
      generalize l0[k] = row at hS hx0 hx1 hc1 hC
      simp only [showGo] at hS
      split at hS
      · split at hS
        · rename_i hj hlen
          obtain ⟨hj1, hj2⟩ := join_some hj
          have hy0 := pw_cell_below HB.out hx0
          have hy1 := pw_cell_below HB.out hx1
          have hC' := Aside0.mk (Kd.C_below hC HB.out)
          have hS' := Aside0.mk hS
          have hJ := Aside0.mk hj1
          have hL := Aside0.mk hlen
          have hJ2 := Aside0.mk hj2
          clear hC hS hj1 hlen hj hrd hx0 hx1 hj2
          go_wp2_with fail
          refine (strings_Join.calls A1 c1 row.f1 ⟨#[32]⟩ (joinB row.f1 ⟨#[32]⟩) _ (Kd.C_alloc hC'.out _) hc1 hJ.out ((HG.out.below HB.out).alloc _)).mono ?_
          rintro e w2 ⟨rfl, hb2⟩
          have HB2 := Aside0.mk (below_step (below_alloc HB.out (.cells #[.int .i64 row.f0, .slice A1 row.f1.length c1] 31)) hb2)
          have HI2 := Aside0.mk (builder_below (builder_alloc HI.out (.cells #[.int .i64 row.f0, .slice A1 row.f1.length c1] 31)) hb2)
          have hsz2 := below_size HB2.out
          clear hb2 HB HI hy0 hy1 hc1 hC' hJ
          have hS3 := Aside0.mk (show showGo (l0.drop (k + 1)) (acc ++ (joinB row.f1 ⟨#[32]⟩ ++ ⟨#[10]⟩)) = some r from hS'.out)
          have hL3 := Aside0.mk (show acc.size + (joinB row.f1 ⟨#[32]⟩ ++ (⟨#[10]⟩ : ByteArray)).size ≤ 140737488355328 from hL.out)
          clear hS' hL
          have hj2 := hJ2.out
          clear hJ2
          generalize joinB row.f1 ⟨#[32]⟩ = t at hS3 hL3 hj2 ⊢
          go_wp2_with fail
          refine (WriteString w.heap.size w.heap.size _ _ _ HI2.out (by rw [Lib.byteCells_length, ← Lib.size_eq]; exact hL3.out) hsz2).mono ?_
          rintro e w3 ⟨rfl, h3, hb3⟩
          have HB3 := Aside0.mk (HB2.out.trans hb3)
          have HI3 := Aside0.mk (show Lib.IsBuilderF 94 5 w.heap.size w.heap.size (Lib.byteCells (acc ++ (t ++ (⟨#[10]⟩ : ByteArray))).data.toList) w3 from by
            have e1 : (acc ++ (t ++ (⟨#[10]⟩ : ByteArray))).data.toList = acc.data.toList ++ (t ++ (⟨#[10]⟩ : ByteArray)).data.toList := by simp
            rw [e1, Lib.byteCells_append, ← strCells_bytes]
            exact h3)
          clear h3 hb3 HI2 HB2
          go_wp2
          go_roundw
          case rel => exact ⟨k + 1, _, by omega, by go_num, hS3, HI3, HB3⟩
          case measure => simp [intOf]; omega
        · cases hS
      · cases hS
    · obtain rfl : k = l0.length := by omega
      have hS := HS.out
      rw [List.drop_length] at hS
      obtain rfl := Option.some.inj hS
      have hsz := below_size HB.out
      go_wp2_with (go_at_call 70; refine (StringOf w.heap.size w.heap.size _ _ HI.out hsz).mono ?_; rintro e w' ⟨rfl, hb⟩)
      go_ret
      exact ⟨rfl, HB.out.trans hb⟩
end Go.Proofs.YthefdpioaapomaaDoor.Ext
