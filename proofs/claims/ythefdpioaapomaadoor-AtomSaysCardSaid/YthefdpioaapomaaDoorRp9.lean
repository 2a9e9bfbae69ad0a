/- What the document's own power and numbers below sixteen come to. No memory in sight. -/
import Derived.Test.YthefdpioaapomaaDoorRu9
import Derived.Test.YthefdpioaapomaaDoorPC3
namespace Go.Proofs.YthefdpioaapomaaDoor.Pu9
set_option linter.unusedVariables false
set_option linter.unusedSimpArgs false
open Go.RowKit Go.Proofs.YthefdpioaapomaaDoorW.PrintWords Go.Proofs.YthefdpioaapomaaDoorW.PrintLast Go.Proofs.YthefdpioaapomaaDoor.Ext Go.Proofs.YthefdpioaapomaaDoorW.PrintMore Go.Proofs.YthefdpioaapomaaDoor.PC Go.Proofs.YthefdpioaapomaaDoor.Pl

/-! Numbers below sixteen -/
set_option maxRecDepth 100000 in
theorem num_closed : ∀ n : Fin 16, 4 ≤ n.val → cubitref6_Num.f 8 (n.val : Int) = some (ofL (decP n.val)) := by decide +kernel
theorem num_ev (n : Nat) (h1 : 4 ≤ n) (h2 : n ≤ 15) : Ev (fun k => cubitref6_Num.f k (n : Int)) (ofL (decP n)) :=
  Ev.of (fun k => cubitref6_Num.mono _ k) (num_closed ⟨n, by omega⟩ h1)
def refPow (s : Bs) : Int := if powP s = 1 then 0 else (powP s : Int)
theorem powGo_one (s : Bs) : ∀ (d n : Nat), 4 ≤ n → powGo s d n = 1 ∨ 4 ≤ powGo s d n
  | 0, n, h => .inl rfl
  | d + 1, n, h => by
    unfold powGo
    split
    · exact .inr h
    · exact powGo_one s d (n + 1) (by omega)
theorem refPow_loop (s : Bs) : ∀ (d n : Nat), n + d = 16 → 4 ≤ n → Ev (fun k => cubitref6_power.l0 k (ofL s) (n : Int)) (if powGo s d n = 1 then (0 : Int) else (powGo s d n : Int))
  | 0, n, h, h4 => by
    refine Ev.step (f := fun _ => some 0) (fun k => ?_) (Ev.now _)
    simp only [cubitref6_power.l0]
    rw [if_neg (by omega)]
  | d + 1, n, h, h4 => by
    have hl := decP_len n
    have e0 : (⟨#[112, 111, 119]⟩ : ByteArray) ++ ofL (decP n) = ofL (pow ++ decP n) := by
      rw [← ofL_append]; rfl
    apply Ev.step (f := fun k => (cubitref6_Num.f k (n : Int)).bind fun t183 => (if 3 + t183.size ≤ 9223372036854775807 then (if (ofL s).toList = ((⟨#[112, 111, 119]⟩ : ByteArray) ++ t183).toList then (some (n : Int)) else (cubitref6_power.l0 k (ofL s) ((n + 1 : Nat) : Int))) else (none)))
    · intro k
      simp only [cubitref6_power.l0]
      rw [if_pos (by omega), wrap_nat (by omega)]
    · refine Ev.bind (num_ev n h4 (by omega)) ?_
      rw [powGo]
      by_cases he : s = pow ++ decP n
      · refine Ev.congr (fun k => ?_) (Ev.now _)
        rw [if_pos (by rw [ofL_size]; omega), e0, if_pos (by rw [ofL_toList, ofL_toList]; exact he), if_pos he, if_neg (by omega)]
      · rw [if_neg he]
        refine Ev.congr (fun k => ?_) (refPow_loop s d (n + 1) (by omega) (by omega))
        rw [if_pos (by rw [ofL_size]; omega), e0, if_neg (by rw [ofL_toList, ofL_toList]; exact he)]
theorem refPow_ev (s : Bs) : Ev (fun k => cubitref6_power.f k (ofL s)) (refPow s) := by
  unfold refPow powP
  by_cases h1 : s = [115, 113, 117, 97, 114, 101]
  · rw [if_pos h1]
    refine Ev.congr (fun k => ?_) (Ev.now _)
    unfold cubitref6_power.f
    rw [if_pos (by rw [ofL_toList]; exact h1)]
    rfl
  · rw [if_neg h1]
    by_cases h2 : s = [99, 117, 98, 105, 99]
    · rw [if_pos h2]
      refine Ev.congr (fun k => ?_) (Ev.now _)
      unfold cubitref6_power.f
      rw [if_neg (by rw [ofL_toList]; exact h1), if_pos (by rw [ofL_toList]; exact h2)]
      rfl
    · rw [if_neg h2]
      refine Ev.congr (fun k => ?_) (refPow_loop s 12 4 rfl (by decide))
      unfold cubitref6_power.f
      rw [if_neg (by rw [ofL_toList]; exact h1), if_neg (by rw [ofL_toList]; exact h2)]
      rfl
end Go.Proofs.YthefdpioaapomaaDoor.Pu9
