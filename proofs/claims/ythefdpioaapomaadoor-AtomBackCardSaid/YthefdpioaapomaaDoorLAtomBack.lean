/- The statement AtomBack holds, in plain words: its walked text comes to true at every input. No memory in sight. -/
import Derived.Test.YthefdpioaapomaaDoorLAtomOrder
import Derived.Test.YthefdpioaapomaaDoorPC13
namespace Go.Proofs.YthefdpioaapomaaDoor.Pu9
set_option linter.unusedVariables false
set_option linter.unusedSimpArgs false
open Go.RowKit Go.Proofs.YthefdpioaapomaaDoorW.PrintWords Go.Proofs.YthefdpioaapomaaDoorW.PrintLast Go.Proofs.YthefdpioaapomaaDoor.Ext Go.Proofs.YthefdpioaapomaaDoorW.PrintMore Go.Proofs.YthefdpioaapomaaDoor.PC Go.Proofs.YthefdpioaapomaaDoor.Pl

theorem prefix_cut {p s : Bs} (h : p.isPrefixOf s = true) : p ++ s.drop p.length = s := by
  obtain ⟨t, rfl⟩ := List.isPrefixOf_iff_prefix.1 h
  rw [List.drop_left]
theorem nameGo_spec (names : List Bs) (s : Bs) : ∀ (ps : List Bs) (ok : Bool) (bp bn : Bs), (ok = true → bp ++ bn = s ∧ bn ∈ names) → (nameGo names s ps ok bp bn).2.2 = true → (nameGo names s ps ok bp bn).1 ++ (nameGo names s ps ok bp bn).2.1 = s ∧ (nameGo names s ps ok bp bn).2.1 ∈ names
  | [], ok, bp, bn, h, hk => h hk
  | p :: ps, ok, bp, bn, h, hk => by
    rw [nameGo] at hk ⊢
    split at hk
    · rename_i hc
      rw [if_pos hc]
      simp only [Bool.and_eq_true] at hc
      exact nameGo_spec names s ps true p _ (fun _ => ⟨prefix_cut hc.1.1, List.contains_iff_mem.1 hc.1.2⟩) hk
    · rename_i hc
      rw [if_neg hc]
      exact nameGo_spec names s ps ok bp bn h hk
theorem nameA_spec {names prefs : List Bs} {s : Bs} (h : (nameA names prefs s).2.2 = true) : (nameA names prefs s).1 ++ (nameA names prefs s).2.1 = s := by
  unfold nameA at h ⊢
  split
  · rfl
  · rename_i hc
    rw [if_neg hc] at h
    exact (nameGo_spec names s prefs false [] [] (fun e => by cases e) h).1
def short (l : List Bs) (n : Nat) : Prop := ∀ x ∈ l, x.length ≤ n
theorem nameGo_short (names : List Bs) (s : Bs) : ∀ (ps : List Bs) (ok : Bool) (bp bn : Bs), short names 6 → short ps 5 → bp.length ≤ 5 → bn.length ≤ 6 → (nameGo names s ps ok bp bn).1.length ≤ 5 ∧ (nameGo names s ps ok bp bn).2.1.length ≤ 6
  | [], ok, bp, bn, h1, h2, h3, h4 => ⟨h3, h4⟩
  | p :: ps, ok, bp, bn, h1, h2, h3, h4 => by
    rw [nameGo]
    split
    · rename_i hc
      simp only [Bool.and_eq_true] at hc
      exact nameGo_short names s ps true p _ h1 (fun x hx => h2 x (List.mem_cons_of_mem _ hx)) (h2 p List.mem_cons_self) (h1 _ (List.contains_iff_mem.1 hc.1.2))
    · exact nameGo_short names s ps ok bp bn h1 (fun x hx => h2 x (List.mem_cons_of_mem _ hx)) h3 h4
theorem nameA_short {s : Bs} : (nameA sNames sPrefs s).1.length ≤ 5 ∧ (nameA sNames sPrefs s).2.1.length ≤ 6 := by
  unfold nameA
  split
  · rename_i h
    exact ⟨Nat.zero_le _, (show short sNames 6 by unfold short sNames; decide) _ (List.contains_iff_mem.1 h)⟩
  · exact nameGo_short sNames s sPrefs false [] [] (by unfold short sNames; decide) (by unfold short sPrefs; decide) (Nat.zero_le _) (Nat.zero_le _)
theorem powGo_spec (s : Bs) : ∀ d n, 4 ≤ n → powGo s d n = 1 ∨ 4 ≤ powGo s d n ∧ s = pow ++ decP (powGo s d n)
  | 0, n, _ => .inl rfl
  | d + 1, n, h => by
    unfold powGo
    split
    · rename_i he; exact .inr ⟨h, he⟩
    · exact powGo_spec s d (n + 1) (by omega)
/-- The word of a power, and the power. -/
theorem powP_spec (s : Bs) : powP s = 1 ∨ (powP s = 2 ∧ s = [115, 113, 117, 97, 114, 101]) ∨ (powP s = 3 ∧ s = [99, 117, 98, 105, 99]) ∨ (4 ≤ powP s ∧ s = pow ++ decP (powP s)) := by
  unfold powP
  split
  · rename_i h; exact .inr (.inl ⟨rfl, h⟩)
  · split
    · rename_i h; exact .inr (.inr (.inl ⟨rfl, h⟩))
    · rcases powGo_spec s 12 4 (Nat.le_refl _) with h | h
      · exact .inl h
      · exact .inr (.inr (.inr h))
theorem parseA_none (ls : List Bs) (h : (parseA sNames sPrefs ls).2.2.2.2 = false) : parseA sNames sPrefs ls = none5 := by
  unfold parseA at h ⊢
  cases ls with
  | nil => rfl
  | cons w ls =>
    simp only at h ⊢
    split at h
    · rfl
    · split at h
      · cases h
      · rename_i hx; rw [if_neg hx]
/-- What an atom that is read is: its text is what it was read of. -/
theorem parseA_some (ls : List Bs) (h : (parseA sNames sPrefs ls).2.2.2.2 = true) :
    ∃ (p n : Bs) (w : Nat) (at_ : Nat), parseA sNames sPrefs ls = (p, n, (w : Int), (at_ : Int) + 1, true) ∧ p.length ≤ 5 ∧ n.length ≤ 6 ∧ at_ < ls.length ∧
      ((at_ = 0 ∧ w = 1 ∧ ∃ l, ls = (p ++ n) :: l) ∨ (at_ = 1 ∧ ∃ a l, ls = a :: (p ++ n) :: l ∧ a.length ≤ 100 ∧ showA p n (w : Int) = a ++ [45] ++ (p ++ n))) := by
  cases ls with
  | nil => cases h
  | cons a ls =>
    obtain ⟨r1, r2⟩ := powP_range a
    have sp := powP_spec a
    unfold parseA at h ⊢
    simp only at h ⊢
    generalize hw : powP a = w at *
    split at h
    · cases h
    · rename_i x hx
      split at h
      · rename_i hn
        rw [if_pos hn]
        have e := nameA_spec hn
        obtain ⟨s1, s2⟩ := nameA_short (s := x)
        have hlt := (List.getElem?_eq_some_iff.1 hx).1
        refine ⟨_, _, w, if w = 1 then 0 else 1, rfl, s1, s2, hlt, ?_⟩
        by_cases h1 : w = 1
        · left
          rw [if_pos h1] at hx
          refine ⟨if_pos h1, h1, ls, ?_⟩
          rw [e]
          simp at hx
          rw [hx]
        · right
          rw [if_neg h1] at hx
          refine ⟨if_neg h1, a, ls.tail, ?_, ?_, ?_⟩
          · rw [e]
            cases ls with
            | nil => simp at hx
            | cons y ls => simp at hx; rw [hx]; rfl
          · rcases sp with q | ⟨_, q⟩ | ⟨_, q⟩ | ⟨_, q⟩
            · exact absurd q h1
            · rw [q]; decide
            · rw [q]; decide
            · have := decP_len w
              have e3 : pow.length = 3 := rfl
              rw [q, List.length_append]; omega
          · unfold showA
            rw [if_neg (by omega), if_neg (by omega)]
            rcases sp with q | ⟨q2, q⟩ | ⟨q2, q⟩ | ⟨q2, q⟩
            · exact absurd q h1
            · rw [if_pos (by omega), q]; rfl
            · rw [if_neg (by omega), if_pos (by omega), q]; rfl
            · rw [if_neg (by omega), if_neg (by omega), Int.toNat_natCast, ← q]
      · cases h
theorem less_self (p n : ByteArray) (w : Int) : Ev (fun k => atom_Less.f k p n w p n w) false := by
  have l := less_ev ⟨p, n, w⟩ ⟨p, n, w⟩
  have : ¬ lessC ⟨p, n, w⟩ ⟨p, n, w⟩ < 0 := by
    have := lessC_anti ⟨p, n, w⟩ ⟨p, n, w⟩
    omega
  rw [decide_eq_false this] at l
  exact l
theorem back_j1 (p n : Bs) (w : Int) (s : Bs) (h1 : p.length ≤ 5) (h2 : n.length ≤ 6) (hs : showA p n w = s) : Ev (fun k => cubitlaw9_AtomBack.j1 k (ofL s) (ofL p) (ofL n) w) true := by
  have sh := show_ev p n w (by omega)
  rw [hs] at sh
  apply Ev.step (f := fun k => (atom_Show.f k (ofL p) (ofL n) w).bind fun t393 => (if t393.toList = (ofL s).toList then ((atom_Less.f k (ofL p) (ofL n) w (ofL p) (ofL n) w).bind fun t394 => (if t394 = true then (some false) else (some true))) else (some false)))
  · intro k
    simp only [cubitlaw9_AtomBack.j1]
  · refine Ev.bind sh ?_
    simp only [if_true]
    refine Ev.bind (less_self _ _ _) ?_
    exact Ev.now true
theorem AtomBack_ev (ls : List Bs) : Ev (fun k => cubitlaw9_AtomBack.f k (ls.map ofL)) true := by
  unfold cubitlaw9_AtomBack.f
  refine Ev.bind awake_ev ?_
  simp only [if_true]
  by_cases h : 12 < ls.length
  · refine Ev.congr (fun k => ?_) (Ev.now true)
    rw [if_pos (by rw [List.length_map]; omega)]
  · have pa := parse_ev sNames sPrefs ls (by decide)
    have main : Ev (fun k => (atom_Parse.f k (sNames.map ofL) (sPrefs.map ofL) (ls.map ofL)).bind fun bt385 => (if bt385.2.2.2.2 = true then (if bt385.2.2.2.1 < 1 then (cubitlaw9_AtomBack.j0 k (ls.map ofL) bt385.2.2.2.1 true bt385.1 bt385.2.1 bt385.2.2.1) else (if bt385.2.2.2.1 > 2 then (cubitlaw9_AtomBack.j0 k (ls.map ofL) bt385.2.2.2.1 true bt385.1 bt385.2.1 bt385.2.2.1) else (cubitlaw9_AtomBack.j0 k (ls.map ofL) bt385.2.2.2.1 (decide (bt385.2.2.2.1 > ((ls.map ofL).length : Int))) bt385.1 bt385.2.1 bt385.2.2.1))) else (if bt385.2.2.2.1 = 0 then (if (bt385.1.toList == ([] : List UInt8) && (bt385.2.1.toList == ([] : List UInt8) && (bt385.2.2.1 == 0))) = true then (some true) else (some false)) else (some false)))) true := by
      refine Ev.bind pa ?_
      cases hok : (parseA sNames sPrefs ls).2.2.2.2 with
      | false =>
        rw [parseA_none ls hok]
        refine Ev.congr (fun k => ?_) (Ev.now true)
        simp only [r5, none5, ofL_toList]
        rfl
      | true =>
        obtain ⟨p, n, w, at_, e, s1, s2, hlt, hcase⟩ := parseA_some ls hok
        rw [e]
        have j0 : Ev (fun k => cubitlaw9_AtomBack.j0 k (ls.map ofL) ((at_ : Int) + 1) false (ofL p) (ofL n) (w : Int)) true := by
          rcases hcase with ⟨rfl, rfl, l, rfl⟩ | ⟨rfl, a, l, rfl, ha, hsh⟩
          · refine Ev.step (fun k => ?_) (back_j1 p n 1 (p ++ n) s1 s2 rfl)
            simp only [cubitlaw9_AtomBack.j0]
            rw [if_neg (by decide), if_pos (by rw [List.length_map, List.length_cons]; omega), if_neg (by decide)]
            rfl
          · refine Ev.step (fun k => ?_) (back_j1 p n w (a ++ [45] ++ (p ++ n)) s1 s2 hsh)
            have e0 : rdOf ByteArray.empty ((a :: (p ++ n) :: l).map ofL) 0 = ofL a := rfl
            have e1 : rdOf ByteArray.empty ((a :: (p ++ n) :: l).map ofL) 1 = ofL (p ++ n) := rfl
            have e2 : ofL a ++ (⟨#[45]⟩ : ByteArray) = ofL (a ++ [45]) := by rw [← ofL_append]; rfl
            simp only [cubitlaw9_AtomBack.j0, e0, e1]
            rw [if_neg (by decide), if_pos (by rw [List.length_map, List.length_cons]; omega), if_pos (by rfl), if_pos (by rw [ofL_size]; omega), if_pos (by rw [List.length_map, List.length_cons, List.length_cons]; omega), e2, if_pos (by rw [ofL_size, ofL_size]; simp; omega), ofL_append]
        refine Ev.congr (fun k => ?_) j0
        have c2 : at_ ≤ 1 := by
          rcases hcase with ⟨rfl, _⟩ | ⟨rfl, _⟩ <;> omega
        simp only [r5, if_true]
        refine (if_neg (by omega)).trans ((if_neg (by omega)).trans ?_)
        have hd : decide (((at_ : Nat) : Int) + 1 > ((ls.map ofL).length : Int)) = false := decide_eq_false (by rw [List.length_map]; omega)
        exact congrArg (fun b => cubitlaw9_AtomBack.j0 k (ls.map ofL) ((at_ : Int) + 1) b (ofL p) (ofL n) (w : Int)) hd
    refine Ev.congr (fun k => ?_) main
    rw [if_neg (by rw [List.length_map]; omega), some_f, Option.bind_some]
end Go.Proofs.YthefdpioaapomaaDoor.Pu9
