/- What the document's own walked texts of layer 9 come to, further: powers, an atom that is read and shown, the order. No memory in sight. -/
import Derived.Test.YthefdpioaapomaaDoorRp9
import Derived.Test.YthefdpioaapomaaDoorExtP
import Derived.Test.YthefdpioaapomaaDoorPC7
namespace Go.Proofs.YthefdpioaapomaaDoor.Pu9
set_option linter.unusedVariables false
set_option linter.unusedSimpArgs false
open Go.RowKit Go.Proofs.YthefdpioaapomaaDoorW.PrintWords Go.Proofs.YthefdpioaapomaaDoorW.PrintLast Go.Proofs.YthefdpioaapomaaDoor.Ext Go.Proofs.YthefdpioaapomaaDoorW.PrintMore Go.Proofs.YthefdpioaapomaaDoor.PC Go.Proofs.YthefdpioaapomaaDoor.Pl

/-! An atom that is shown; the order -/
theorem refShow_ev (p n : Bs) (w : Int) (h : p.length + n.length ≤ 1000000000000000) : Ev (fun k => cubitref6_ShowAtom.f k (ofL p) (ofL n) w) (ofL (showA p n w)) := by
  have hc : ∀ c : Bool, c = decide (w < 1 ∨ 15 < w) → Ev (fun k => cubitref6_ShowAtom.j0 k (ofL (p ++ n)) c (ofL p) (ofL n) w) (ofL (showA p n w)) := by
    intro c hc
    have hsz : (ofL (p ++ n)).size = p.length + n.length := by rw [ofL_size, List.length_append]
    subst hc
    unfold showA
    by_cases hb : w < 1 ∨ 15 < w
    · rw [decide_eq_true hb, if_pos hb]
      refine Ev.step (f := fun _ => some (ofL [])) (fun k => ?_) (Ev.now _)
      simp only [cubitref6_ShowAtom.j0]
      rw [if_pos trivial]
      rfl
    · rw [decide_eq_false hb, if_neg hb]
      by_cases h1 : w = 1
      · rw [if_pos h1]
        refine Ev.step (f := fun _ => some (ofL (p ++ n))) (fun k => ?_) (Ev.now _)
        simp only [cubitref6_ShowAtom.j0]
        rw [if_neg (by decide), if_pos h1]
      · rw [if_neg h1]
        by_cases h2 : w = 2
        · rw [if_pos h2]
          refine Ev.step (f := fun _ => some (ofL ([115, 113, 117, 97, 114, 101, 45] ++ (p ++ n)))) (fun k => ?_) (Ev.now _)
          simp only [cubitref6_ShowAtom.j0]
          rw [if_neg (by decide), if_neg h1, if_pos h2, if_pos (by rw [hsz]; omega), ← ofL_append]
          rfl
        · rw [if_neg h2]
          by_cases h3 : w = 3
          · rw [if_pos h3]
            refine Ev.step (f := fun _ => some (ofL ([99, 117, 98, 105, 99, 45] ++ (p ++ n)))) (fun k => ?_) (Ev.now _)
            simp only [cubitref6_ShowAtom.j0]
            rw [if_neg (by decide), if_neg h1, if_neg h2, if_pos h3, if_pos (by rw [hsz]; omega), ← ofL_append]
            rfl
          · rw [if_neg h3]
            obtain ⟨m, rfl⟩ := Int.eq_ofNat_of_zero_le (show 0 ≤ w by omega)
            have hl := decP_len m
            apply Ev.step (f := fun k => (cubitref6_Num.f k (m : Int)).bind fun t214 => (if 3 + t214.size ≤ 9223372036854775807 then (if ((⟨#[112, 111, 119]⟩ : ByteArray) ++ t214).size + 1 ≤ 9223372036854775807 then (if (((⟨#[112, 111, 119]⟩ : ByteArray) ++ t214) ++ (⟨#[45]⟩ : ByteArray)).size + (ofL (p ++ n)).size ≤ 9223372036854775807 then (some ((((⟨#[112, 111, 119]⟩ : ByteArray) ++ t214) ++ (⟨#[45]⟩ : ByteArray)) ++ ofL (p ++ n))) else (none)) else (none)) else (none)))
            · intro k
              simp only [cubitref6_ShowAtom.j0]
              rw [if_neg (by decide), if_neg h1, if_neg h2, if_neg h3]
            · refine Ev.bind (num_ev m (by omega) (by omega)) ?_
              refine Ev.congr (fun k => ?_) (Ev.now _)
              have e1 : (⟨#[112, 111, 119]⟩ : ByteArray) ++ ofL (decP m) = ofL (pow ++ decP m) := by rw [← ofL_append]; rfl
              have e2 : ofL (pow ++ decP m) ++ (⟨#[45]⟩ : ByteArray) = ofL ((pow ++ decP m) ++ [45]) := by rw [← ofL_append]; rfl
              have hp : pow.length = 3 := rfl
              rw [if_pos (by rw [ofL_size]; omega), e1, if_pos (by rw [ofL_size, List.length_append]; omega), e2, if_pos (by rw [hsz, ofL_size]; simp only [List.length_append, List.length_cons, List.length_nil]; omega), ofL_append, Int.toNat_natCast]
  unfold cubitref6_ShowAtom.f
  have h1 := hc true
  have h2 := hc (decide (w > 15))
  by_cases hw : w < 1
  · refine Ev.congr (fun k => ?_) (h1 (decide_eq_true (.inl hw)).symm)
    rw [if_pos (by rw [ofL_size, ofL_size]; omega), if_pos hw, ofL_append]
  · refine Ev.congr (fun k => ?_) (h2 (by
      by_cases h3 : w > 15
      · rw [decide_eq_true h3, decide_eq_true (.inr h3)]
      · rw [decide_eq_false h3, decide_eq_false (by omega)]))
    rw [if_pos (by rw [ofL_size, ofL_size]; omega), if_neg hw, ofL_append]
theorem refLess_f (a b : A3) : cubitref6_Less.f a.p a.n a.w b.p b.n b.w = some (decide (lessC a b < 0)) := by
  unfold cubitref6_Less.f
  simp only [Lib.toList_data, bytesLess_eq]
  by_cases h1 : a.n.data.toList = b.n.data.toList
  · rw [if_pos h1]
    by_cases h2 : a.p.data.toList = b.p.data.toList
    · rw [if_pos h2]
      congr 1
      rw [Bool.eq_iff_iff, decide_eq_true_eq, decide_eq_true_eq, lessC_lt]
      constructor
      · intro h; exact .inr ⟨h1, .inr ⟨h2, h⟩⟩
      · rintro (h | ⟨_, h | ⟨_, h⟩⟩)
        · rw [h1] at h; exact absurd h (List.lt_irrefl _)
        · rw [h2] at h; exact absurd h (List.lt_irrefl _)
        · exact h
    · rw [if_neg h2]
      congr 1
      rw [Bool.eq_iff_iff, decide_eq_true_eq, decide_eq_true_eq, lessC_lt]
      constructor
      · intro h; exact .inr ⟨h1, .inl h⟩
      · rintro (h | ⟨_, h | ⟨h, _⟩⟩)
        · rw [h1] at h; exact absurd h (List.lt_irrefl _)
        · exact h
        · exact absurd h h2
  · rw [if_neg h1]
    congr 1
    rw [Bool.eq_iff_iff, decide_eq_true_eq, decide_eq_true_eq, lessC_lt]
    constructor
    · intro h; exact .inl h
    · rintro (h | ⟨h, _⟩)
      · exact h
      · exact absurd h h1

/-! An atom that is read -/
theorem map_data (l : List Bs) : (l.map ofL).map (·.data.toList) = l := by
  rw [List.map_map, show ((fun x : ByteArray => x.data.toList) ∘ ofL) = id from rfl, List.map_id]
theorem refParse_f (names prefs ls : List Bs) (hn : names.length < 1000000000) (hp : prefs.length < 1000000000) (hl : ls.length < 1000000) : cubitref6_ParseAtom.f (names.map ofL) (prefs.map ofL) (ls.map ofL) = some (r5 (parseA names prefs ls)) := by
  unfold cubitref6_ParseAtom.f
  rw [if_pos (by rw [List.length_map]; exact hn), if_pos (by rw [List.length_map]; exact hp), if_pos (by rw [List.length_map]; exact hl), map_data, map_data, map_data]
end Go.Proofs.YthefdpioaapomaaDoor.Pu9
