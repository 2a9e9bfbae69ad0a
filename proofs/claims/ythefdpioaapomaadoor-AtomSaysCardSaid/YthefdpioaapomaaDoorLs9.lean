/- The order of atoms in plain words. No memory in sight. -/
import Derived.Test.YthefdpioaapomaaDoorPv9
import Derived.Test.YthefdpioaapomaaDoorPC7
namespace Go.Proofs.YthefdpioaapomaaDoor.Pu9
set_option linter.unusedVariables false
set_option linter.unusedSimpArgs false
open Go.RowKit Go.Proofs.YthefdpioaapomaaDoorW.PrintWords Go.Proofs.YthefdpioaapomaaDoorW.PrintLast Go.Proofs.YthefdpioaapomaaDoor.Ext Go.Proofs.YthefdpioaapomaaDoorW.PrintMore Go.Proofs.YthefdpioaapomaaDoor.PC Go.Proofs.YthefdpioaapomaaDoor.Pl

def cmpS (a b : Bs) : Int := if a < b then -1 else if b < a then 1 else 0
def cmpI (a b : Int) : Int := if a < b then -1 else if b < a then 1 else 0
theorem cmpS_f (a b : ByteArray) : cmp_Compare_string.f a b = some (cmpS a.data.toList b.data.toList) := by
  unfold cmp_Compare_string.f cmp_isNaN_string.f cmpS
  simp only [Option.bind_some, Lib.toList_data, bytesLess_eq, bne_self_eq_false, Bool.false_eq_true, if_false, decide_eq_true_eq]
  split
  · rfl
  · split <;> rfl
theorem cmpI_f (a b : Int) : cmp_Compare_int.f a b = some (cmpI a b) := by
  unfold cmp_Compare_int.f cmp_isNaN_int.f cmpI
  simp only [Option.bind_some, bne_self_eq_false, Bool.false_eq_true, if_false]
  by_cases h : a < b
  · rw [if_pos h, if_pos h]
  · rw [if_neg h, if_neg h]
    by_cases h2 : b < a
    · rw [if_pos h2, if_pos h2]
    · rw [if_neg h2, if_neg h2]
def or3 (x y z : Int) : Int := if x = 0 then (if y = 0 then (if z = 0 then 0 else z) else y) else x
theorem or_f (x y z : Int) : cmp_Or_int.f 4 [x, y, z] = some (or3 x y z) := by
  unfold cmp_Or_int.f or3
  have w1 : wrap64 (0 + 1) = 1 := by unfold wrap64; omega
  have w2 : wrap64 (1 + 1) = 2 := by unfold wrap64; omega
  have w3 : wrap64 (2 + 1) = 3 := by unfold wrap64; omega
  have r0 : rd [x, y, z] 0 = x := rfl
  have r1 : rd [x, y, z] 1 = y := rfl
  have r2 : rd [x, y, z] 2 = z := rfl
  have hl : (([x, y, z] : List Int).length : Int) = 3 := rfl
  simp only [cmp_Or_int.l0, hl, w1, w2, w3, r0, r1, r2]
  by_cases hx : x = 0
  · by_cases hy : y = 0
    · by_cases hz : z = 0 <;> simp [hx, hy, hz]
    · simp [hx, hy]
  · simp [hx]
theorem or_ev (x y z : Int) : Ev (fun k => cmp_Or_int.f k [x, y, z]) (or3 x y z) := Ev.of (fun k => cmp_Or_int.mono _ k) (or_f x y z)
structure A3 where
  p : ByteArray
  n : ByteArray
  w : Int
def lessC (a b : A3) : Int := or3 (cmpS a.n.data.toList b.n.data.toList) (cmpS a.p.data.toList b.p.data.toList) (cmpI a.w b.w)
theorem less_ev (a b : A3) : Ev (fun k => atom_Less.f k a.p a.n a.w b.p b.n b.w) (decide (lessC a b < 0)) := by
  unfold atom_Less.f
  rw [cmpS_f, cmpS_f, cmpI_f]
  simp only [Option.bind_some]
  exact Ev.bind (or_ev _ _ _) (Ev.now _)
/-! The order -/
theorem cmpS_anti (a b : Bs) : cmpS b a = -cmpS a b := by
  unfold cmpS
  by_cases h1 : a < b
  · rw [if_pos h1, if_neg (List.lt_asymm h1), if_pos h1]; rfl
  · by_cases h2 : b < a
    · rw [if_pos h2, if_neg h1, if_pos h2]
    · rw [if_neg h2, if_neg h1, if_neg h1, if_neg h2]; rfl
theorem cmpS_zero {a b : Bs} (h : cmpS a b = 0) : a = b := by
  unfold cmpS at h
  split at h
  · cases h
  · split at h
    · cases h
    · rename_i h1 h2
      exact List.le_antisymm (List.not_lt.1 h2) (List.not_lt.1 h1)
theorem cmpS_self (a : Bs) : cmpS a a = 0 := by
  have := cmpS_anti a a
  omega
theorem cmpS_lt {a b : Bs} : cmpS a b < 0 ↔ a < b := by
  unfold cmpS
  split
  · rename_i h; exact ⟨fun _ => h, fun _ => by decide⟩
  · rename_i h
    split
    · exact ⟨fun e => absurd e (by decide), fun e => absurd e h⟩
    · exact ⟨fun e => absurd e (by decide), fun e => absurd e h⟩
theorem cmpI_anti (a b : Int) : cmpI b a = -cmpI a b := by unfold cmpI; split <;> split <;> (try split) <;> omega
theorem cmpI_zero {a b : Int} (h : cmpI a b = 0) : a = b := by unfold cmpI at h; split at h <;> (try split at h) <;> omega
theorem cmpI_lt {a b : Int} : cmpI a b < 0 ↔ a < b := by unfold cmpI; split <;> (try split) <;> omega
theorem lessC_anti (a b : A3) : lessC b a = -lessC a b := by
  unfold lessC or3
  rw [cmpS_anti a.n.data.toList, cmpS_anti a.p.data.toList, cmpI_anti a.w]
  repeat' split
  all_goals omega
theorem lessC_zero {a b : A3} (h : lessC a b = 0) : a.n.data.toList = b.n.data.toList ∧ a.p.data.toList = b.p.data.toList ∧ a.w = b.w := by
  unfold lessC or3 at h
  by_cases h1 : cmpS a.n.data.toList b.n.data.toList = 0
  · rw [if_pos h1] at h
    by_cases h2 : cmpS a.p.data.toList b.p.data.toList = 0
    · rw [if_pos h2] at h
      by_cases h3 : cmpI a.w b.w = 0
      · exact ⟨cmpS_zero h1, cmpS_zero h2, cmpI_zero h3⟩
      · rw [if_neg h3] at h; exact absurd h h3
    · rw [if_neg h2] at h; exact absurd h h2
  · rw [if_neg h1] at h; exact absurd h h1
theorem lessC_lt {a b : A3} : lessC a b < 0 ↔ (a.n.data.toList < b.n.data.toList ∨ a.n.data.toList = b.n.data.toList ∧ (a.p.data.toList < b.p.data.toList ∨ a.p.data.toList = b.p.data.toList ∧ a.w < b.w)) := by
  unfold lessC or3
  by_cases h1 : cmpS a.n.data.toList b.n.data.toList = 0
  · have e1 := cmpS_zero h1
    rw [if_pos h1]
    by_cases h2 : cmpS a.p.data.toList b.p.data.toList = 0
    · have e2 := cmpS_zero h2
      rw [if_pos h2]
      have : (if cmpI a.w b.w = 0 then 0 else cmpI a.w b.w) = cmpI a.w b.w := by split <;> omega
      rw [this, cmpI_lt, e1, e2]
      constructor
      · intro h; exact .inr ⟨rfl, .inr ⟨rfl, h⟩⟩
      · rintro (h | ⟨_, h | ⟨_, h⟩⟩)
        · exact absurd h (List.lt_irrefl _)
        · exact absurd h (List.lt_irrefl _)
        · exact h
    · rw [if_neg h2, cmpS_lt, e1]
      constructor
      · intro h; exact .inr ⟨rfl, .inl h⟩
      · rintro (h | ⟨_, h | ⟨e, _⟩⟩)
        · exact absurd h (List.lt_irrefl _)
        · exact h
        · rw [e, cmpS_self] at h2; exact absurd rfl h2
  · rw [if_neg h1, cmpS_lt]
    constructor
    · intro h; exact .inl h
    · rintro (h | ⟨e, _⟩)
      · exact h
      · rw [e, cmpS_self] at h1; exact absurd rfl h1
theorem lessC_trans {a b c : A3} (h1 : lessC a b < 0) (h2 : lessC b c < 0) : lessC a c < 0 := by
  rw [lessC_lt] at *
  rcases h1 with h1 | ⟨e1, h1⟩
  · rcases h2 with h2 | ⟨e2, h2⟩
    · exact .inl (List.lt_trans h1 h2)
    · rw [e2] at h1; exact .inl h1
  · rcases h2 with h2 | ⟨e2, h2⟩
    · rw [e1]; exact .inl h2
    · refine .inr ⟨e1.trans e2, ?_⟩
      rcases h1 with h1 | ⟨e3, h1⟩
      · rcases h2 with h2 | ⟨e4, h2⟩
        · exact .inl (List.lt_trans h1 h2)
        · rw [e4] at h1; exact .inl h1
      · rcases h2 with h2 | ⟨e4, h2⟩
        · rw [e3]; exact .inl h2
        · exact .inr ⟨e3.trans e4, by omega⟩
end Go.Proofs.YthefdpioaapomaaDoor.Pu9
