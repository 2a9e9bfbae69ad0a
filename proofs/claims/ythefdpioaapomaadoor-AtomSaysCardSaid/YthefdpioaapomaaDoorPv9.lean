/- What the walked texts of layer 9 come to, further: which names may be, an atom that is shown, the statement that square kilometers are read. No memory in sight. -/
import Derived.Test.YthefdpioaapomaaDoorPu9
namespace Go.Proofs.YthefdpioaapomaaDoor.Pu9
set_option linter.unusedVariables false
set_option linter.unusedSimpArgs false
open Go.RowKit Go.Proofs.YthefdpioaapomaaDoorW.PrintWords Go.Proofs.YthefdpioaapomaaDoorW.PrintLast Go.Proofs.YthefdpioaapomaaDoor.Ext Go.Proofs.YthefdpioaapomaaDoorW.PrintMore Go.Proofs.YthefdpioaapomaaDoor.PC Go.Proofs.YthefdpioaapomaaDoor.Pl

theorem beq_empty (w : Bs) : ((ofL w).toList == ([] : List UInt8)) = w.isEmpty := by
  rw [ofL_toList]; cases w <;> rfl
/-! Trim of all that is in the set -/
theorem dropWhile_nil {p : UInt8 → Bool} : ∀ l : Bs, l.dropWhile p = [] ↔ ∀ x ∈ l, p x = true
  | [] => by simp
  | b :: l => by
    rw [List.dropWhile_cons]
    cases h : p b with
    | true => rw [if_pos rfl, dropWhile_nil l]; simp [h]
    | false => rw [if_neg (by decide)]; simp [h]
theorem trimS_nil (l cs : Bs) : (Lib.trimS l cs = []) ↔ l.all (cs.contains ·) = true := by
  unfold Lib.trimS Lib.trimLeftS Lib.trimRightS
  rw [dropWhile_nil, List.all_eq_true]
  constructor
  · intro h x hx
    have hx' : x ∈ l.reverse.takeWhile (cs.contains ·) ++ l.reverse.dropWhile (cs.contains ·) := by rw [List.takeWhile_append_dropWhile]; exact List.mem_reverse.2 hx
    rcases List.mem_append.1 hx' with h1 | h1
    · have := List.all_takeWhile (l := l.reverse) (p := (cs.contains ·))
      rw [List.all_eq_true] at this
      exact this x h1
    · exact h x (List.mem_reverse.2 h1)
  · intro h x hx
    have := (List.dropWhile_sublist (cs.contains ·) (l := l.reverse)).subset (List.mem_reverse.1 hx)
    exact h x (List.mem_reverse.1 this)
def isDig (b : UInt8) : Bool := 48 ≤ b && b ≤ 57
def isLet (b : UInt8) : Bool := (97 ≤ b && b ≤ 122) || (48 ≤ b && b ≤ 57)
def letters : Bs := [97, 98, 99, 100, 101, 102, 103, 104, 105, 106, 107, 108, 109, 110, 111, 112, 113, 114, 115, 116, 117, 118, 119, 120, 121, 122, 48, 49, 50, 51, 52, 53, 54, 55, 56, 57]
def digits : Bs := [48, 49, 50, 51, 52, 53, 54, 55, 56, 57]
theorem all_bytes {p : UInt8 → Bool} (h : ∀ n : Nat, n < 256 → p (UInt8.ofNat n) = true) (b : UInt8) : p b = true := by
  have := h b.toNat b.toNat_lt
  rwa [UInt8.ofNat_toNat] at this
set_option maxRecDepth 100000 in
theorem letters_iff (b : UInt8) : letters.contains b = isLet b := by
  have := all_bytes (p := fun b => letters.contains b == isLet b) (by decide) b
  exact beq_iff_eq.1 this
set_option maxRecDepth 100000 in
theorem digits_iff (b : UInt8) : digits.contains b = isDig b := by
  have := all_bytes (p := fun b => digits.contains b == isDig b) (by decide) b
  exact beq_iff_eq.1 this
theorem trim_f (w cs : Bs) (hw : w.length ≤ 9223372036854775807) (hc : cs.length < 4294967281) (ha : cs.all (fun b => decide (b.toNat < 128)) = true) : strings_Trim.f (ofL w) (ofL cs) = some (ofL (Lib.trimS w cs)) := by
  unfold strings_Trim.f
  rw [if_pos (by rw [ofL_size]; exact hw), if_pos (by rw [ofL_size]; exact hc), if_pos (by rw [ofL_data]; exact ha)]
  rfl
theorem trim_is (w cs : Bs) (p : UInt8 → Bool) (h : ∀ b, cs.contains b = p b) : ((ofL (Lib.trimS w cs)).toList == ([] : List UInt8)) = w.all p := by
  rw [beq_empty, Bool.eq_iff_iff, List.isEmpty_iff, trimS_nil]
  have : (fun x => cs.contains x) = p := funext h
  rw [this]

/-! Which names may be -/
def goodW (w : Bs) : Bool := !w.isEmpty && decide (w.length ≤ 20) && w.all isLet
theorem good_f (w : Bs) : PM.word_Good.f (ofL w) = some (goodW w) := by
  unfold PM.word_Good.f goodW
  by_cases h0 : w = []
  · subst h0
    rw [if_pos ((ofL_nil_iff []).2 rfl)]
    rfl
  · have e0 : w.isEmpty = false := by cases w with | nil => exact absurd rfl h0 | cons => rfl
    rw [if_neg (fun e => h0 ((ofL_nil_iff w).1 e)), e0]
    by_cases h1 : w.length ≤ 20
    · rw [if_pos (by rw [ofL_size]; omega)]
      show (strings_Trim.f (ofL w) (ofL letters)).bind _ = _
      rw [trim_f w letters (by omega) (by decide) (by decide), Option.bind_some, trim_is w letters isLet letters_iff, decide_eq_true h1]
      rfl
    · rw [if_neg (by rw [ofL_size]; omega), decide_eq_false h1]
      rfl
def bad4 : List Bs := [[112, 101, 114], [97, 110, 100], [115, 113, 117, 97, 114, 101], [99, 117, 98, 105, 99]]
def restOf (s : Bs) : Bs := if pow.isPrefixOf s = true then s.drop pow.length else s
def isNum (s : Bs) : Bool := !(restOf s).isEmpty && (restOf s).all isDig
def mayB (s : Bs) : Bool := !bad4.contains s && goodW s && !isNum s
theorem may_j1 (s : Bs) (b : Bool) : PM.atom_may.j1 1 (ofL s) b = some (goodW s && !b) := by
  show ((PM.word_Good.f (ofL s)).bind fun t105 => (if t105 = true then (some (!b)) else (some false))) = _
  rw [good_f, Option.bind_some]
  cases goodW s <;> rfl
theorem may_j0 (s : Bs) (hs : s.length ≤ 9223372036854775807) (c : Bool) : PM.atom_may.j0 2 (ofL s) c = some (!c && (goodW s && !isNum s)) := by
  have hl : (restOf s).length ≤ s.length := by unfold restOf; split <;> simp
  simp only [PM.atom_may.j0]
  cases c with
  | true => rfl
  | false =>
    rw [if_neg (by decide)]
    show ((strings_CutPrefix.f (ofL s) (ofL pow)).bind _) = _
    rw [cutPrefix_f, Option.bind_some]
    show (if (ofL (restOf s)).toList = ([] : List UInt8) then PM.atom_may.j1 1 (ofL s) false else ((strings_Trim.f (ofL (restOf s)) (ofL digits)).bind fun t104 => (PM.atom_may.j1 1 (ofL s) (t104.toList == ([] : List UInt8))))) = _
    unfold isNum
    by_cases h0 : restOf s = []
    · rw [if_pos ((ofL_nil_iff _).2 h0), may_j1, h0]
      rfl
    · have e0 : (restOf s).isEmpty = false := by cases h : restOf s with | nil => exact absurd h h0 | cons => rfl
      rw [if_neg (fun e => h0 ((ofL_nil_iff _).1 e)), trim_f _ digits (by omega) (by decide) (by decide), Option.bind_some, trim_is _ digits isDig digits_iff, may_j1, e0]
      rfl
theorem may_f (s : Bs) (hs : s.length ≤ 9223372036854775807) : PM.atom_may.f 2 (ofL s) = some (mayB s) := by
  unfold PM.atom_may.f mayB bad4
  simp only [ofL_toList, may_j0 s hs]
  by_cases h1 : s = [112, 101, 114]
  · rw [if_pos h1, h1]; rfl
  · rw [if_neg h1]
    by_cases h2 : s = [97, 110, 100]
    · rw [if_pos h2, h2]; rfl
    · rw [if_neg h2]
      by_cases h3 : s = [115, 113, 117, 97, 114, 101]
      · rw [if_pos h3, h3]; rfl
      · rw [if_neg h3]
        by_cases h4 : s = [99, 117, 98, 105, 99]
        · rw [h4]; rfl
        · have e4 : (s == [99, 117, 98, 105, 99]) = false := beq_eq_false_iff_ne.2 h4
          have e : ([[112, 101, 114], [97, 110, 100], [115, 113, 117, 97, 114, 101], [99, 117, 98, 105, 99]] : List Bs).contains s = false := by
            simp [h1, h2, h3, h4]
          rw [e4, e]
          simp
def rowB : List Bs → List Bs → Bool
  | [], _ => true
  | s :: l, had => mayB s && !had.contains s && rowB l (s :: had)
theorem seen_eq (had : List Bs) (s : Bs) : Ext.seen (had.map ofL) (ofL s) = had.contains s := by
  unfold Ext.seen
  rw [Bool.eq_iff_iff, List.any_eq_true, List.contains_iff_mem]
  constructor
  · rintro ⟨x, hx, e⟩
    obtain ⟨y, hy, rfl⟩ := List.mem_map.1 hx
    rw [ofL_data, ofL_data, beq_iff_eq] at e
    rw [← e]; exact hy
  · intro h
    exact ⟨ofL s, List.mem_map_of_mem h, by simp⟩
theorem row_go : ∀ (l had : List Bs), (∀ s ∈ l, s.length ≤ maxLen) → rowGo (l.map ofL) (had.map ofL) = some (rowB l had)
  | [], had, _ => rfl
  | s :: l, had, h => by
    have hs := h s List.mem_cons_self
    have ih := row_go l (s :: had) (fun x hx => h x (List.mem_cons_of_mem _ hx))
    rw [List.map_cons, rowGo, if_pos (by rw [ofL_size]; exact hs), may_f s (by unfold maxLen at hs; omega), Option.bind_some, seen_eq, rowB]
    cases mayB s with
    | false => rfl
    | true =>
      cases had.contains s with
      | true => rfl
      | false =>
        rw [if_pos rfl, if_neg (by decide)]
        simpa using ih
theorem row_f (l : List Bs) (h : ∀ s ∈ l, s.length ≤ maxLen) : atom_row.f (l.map ofL) = some (rowB l []) := row_go l [] h
theorem Good_f (l m : List Bs) (hl : ∀ s ∈ l, s.length ≤ maxLen) (hm : ∀ s ∈ m, s.length ≤ maxLen) : atom_Good.f (l.map ofL) (m.map ofL) = some (rowB l [] && rowB m []) := by
  unfold atom_Good.f
  rw [row_f l hl, Option.bind_some]
  cases rowB l [] with
  | true => rw [if_pos rfl, row_f m hm]; rfl
  | false => rfl

/-! An atom that is shown -/
def showA (p n : Bs) (w : Int) : Bs :=
  if w < 1 ∨ 15 < w then [] else if w = 1 then p ++ n else if w = 2 then [115, 113, 117, 97, 114, 101, 45] ++ (p ++ n) else if w = 3 then [99, 117, 98, 105, 99, 45] ++ (p ++ n) else ((pow ++ decP w.toNat) ++ [45]) ++ (p ++ n)
theorem show_ev (p n : Bs) (w : Int) (h : p.length + n.length ≤ 1000000000000000) : Ev (fun k => atom_Show.f k (ofL p) (ofL n) w) (ofL (showA p n w)) := by
  have hc : ∀ c : Bool, c = decide (w < 1 ∨ 15 < w) → Ev (fun k => atom_Show.j0 k (ofL (p ++ n)) c (ofL p) (ofL n) w) (ofL (showA p n w)) := by
    intro c hc
    refine Ev.step (f := fun _ => some (ofL (showA p n w))) (fun k => ?_) (Ev.now _)
    simp only [atom_Show.j0]
    unfold showA
    by_cases h0 : w < 1 ∨ 15 < w
    · rw [hc, decide_eq_true h0, if_pos rfl, if_pos h0]; rfl
    · rw [hc, decide_eq_false h0, if_neg (by decide), if_neg h0]
      by_cases h1 : w = 1
      · rw [if_pos h1, if_pos h1]
      · rw [if_neg h1, if_neg h1]
        by_cases h2 : w = 2
        · rw [if_pos h2, if_pos h2, if_pos (by rw [ofL_size]; simp; omega), ← ofL_append]; rfl
        · rw [if_neg h2, if_neg h2]
          by_cases h3 : w = 3
          · rw [if_pos h3, if_pos h3, if_pos (by rw [ofL_size]; simp; omega), ← ofL_append]; rfl
          · rw [if_neg h3, if_neg h3]
            obtain ⟨m, rfl⟩ := Int.eq_ofNat_of_zero_le (a := w) (by omega)
            have hl := decP_len m
            have e1 : (⟨#[112, 111, 119]⟩ : ByteArray) ++ ofL (decP m) = ofL (pow ++ decP m) := by rw [← ofL_append]; rfl
            have e2 : ofL (pow ++ decP m) ++ (⟨#[45]⟩ : ByteArray) = ofL ((pow ++ decP m) ++ [45]) := by rw [← ofL_append (pow ++ decP m)]; rfl
            have hp : pow.length = 3 := rfl
            rw [itoa_f (by omega), Option.bind_some, if_pos (by rw [ofL_size]; omega), e1, if_pos (by rw [ofL_size, List.length_append, hp]; omega), e2, if_pos (by rw [ofL_size, ofL_size]; simp only [List.length_append, hp, List.length_singleton]; omega), ofL_append]
            rfl
  by_cases h1 : w < 1
  · refine Ev.congr (fun k => ?_) (hc true (decide_eq_true (.inl h1)).symm)
    unfold atom_Show.f
    rw [if_pos (by rw [ofL_size, ofL_size]; omega), if_pos h1, ofL_append]
  · refine Ev.congr (fun k => ?_) (hc (decide (w > 15)) (by
      by_cases h2 : w > 15
      · rw [decide_eq_true h2, decide_eq_true (.inr h2)]
      · rw [decide_eq_false h2, decide_eq_false (by omega)]))
    unfold atom_Show.f
    rw [if_pos (by rw [ofL_size, ofL_size]; omega), if_neg h1, ofL_append]

/-! awake -/
def sNames : List Bs := [[109, 101, 116, 101, 114], [103, 114, 97, 109], [108, 111, 103, 114, 97, 109]]
def sPrefs : List Bs := [[107, 105], [107, 105, 108, 111], [109, 105, 108, 108, 105]]
theorem some_f : cubitlaw9_some.f = some (sNames.map ofL, sPrefs.map ofL) := rfl
theorem awake_parse : parseA sNames sPrefs [[115, 113, 117, 97, 114, 101], [107, 105, 108, 111, 109, 101, 116, 101, 114], [112, 101, 114]] = ([107, 105, 108, 111], [109, 101, 116, 101, 114], 2, 2, true) := by rfl
theorem sGood : (rowB sNames [] && rowB sPrefs []) = true := by rfl
theorem some_good : atom_Good.f (sNames.map ofL) (sPrefs.map ofL) = some true := by
  rw [Good_f sNames sPrefs (by unfold maxLen; decide) (by unfold maxLen; decide), sGood]
theorem awake_ev : Ev (fun k => cubitlaw9_awake.f k) true := by
  have hp := parse_ev sNames sPrefs [[115, 113, 117, 97, 114, 101], [107, 105, 108, 111, 109, 101, 116, 101, 114], [112, 101, 114]] (by decide)
  rw [awake_parse] at hp
  have hs := show_ev [107, 105, 108, 111] [109, 101, 116, 101, 114] 2 (by decide)
  unfold cubitlaw9_awake.f
  simp only [some_f, Option.bind_some]
  refine Ev.bind hp ?_
  simp only [r5, ofL_toList, if_true]
  refine Ev.bind hs ?_
  refine Ev.congr (fun k => ?_) (Ev.now true)
  rw [if_pos (by rw [ofL_toList]; rfl), some_good]
  rfl
end Go.Proofs.YthefdpioaapomaaDoor.Pu9
