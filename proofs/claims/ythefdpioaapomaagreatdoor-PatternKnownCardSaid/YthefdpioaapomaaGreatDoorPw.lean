/- Layer 22 in plain lists of bytes: what a row is for, all rows, chains. No memory in sight. -/
import Derived.Test.YthefdpioaapomaaGreatDoorPz
import Derived.Test.YthefdpioaapomaaGreatDoorLoadW
import Derived.Test.YthefdpioaapomaaGreatDoorFindW
namespace Go.Proofs.YthefdpioaapomaaGreatDoor.Pz
set_option linter.unusedVariables false
set_option linter.unusedSimpArgs false
open Go.RowKit Go.Proofs.YthefdpioaapomaaGreatDoorW.PrintWords Go.Proofs.YthefdpioaapomaaGreatDoorW.PrintLast Go.Proofs.YthefdpioaapomaaGreatDoor.Ext Go.Proofs.YthefdpioaapomaaGreatDoorW.PrintMore Go.Proofs.YthefdpioaapomaaGreatDoor.PA Go.Proofs.YthefdpioaapomaaGreatDoor.Pl

abbrev wRoot : Bs := [114, 111, 111, 116]
abbrev wLong : Bs := [108, 111, 110, 103]
abbrev wShort : Bs := [115, 104, 111, 114, 116]
abbrev wNarrow : Bs := [110, 97, 114, 114, 111, 119]
abbrev wWord : Bs := [119, 111, 114, 100]
abbrev wPower : Bs := [112, 111, 119, 101, 114]
abbrev wPrefixed : Bs := [112, 114, 101, 102, 105, 120, 101, 100]
abbrev wPer : Bs := [112, 101, 114]
abbrev wTimes : Bs := [116, 105, 109, 101, 115]
abbrev wParent : Bs := [112, 97, 114, 101, 110, 116]
def langB (s : Bs) : Bool := s == wRoot || (decide (2 ≤ s.length) && decide (s.length ≤ 3) && s.all isAz)
theorem lang_f (s : Bs) : pattern_lang.f (ofL s) = some (langB s) := by
  unfold pattern_lang.f langB
  rw [ofL_toList]
  by_cases h0 : s = wRoot
  · rw [if_pos h0, h0]
    rfl
  · rw [if_neg h0, beq_eq_false_iff_ne.2 h0, Bool.false_or]
    by_cases h2 : 2 ≤ s.length
    · rw [if_pos (by rw [ofL_size]; omega), decide_eq_true h2]
      by_cases h3 : s.length ≤ 3
      · rw [if_pos (by rw [ofL_size]; omega), decide_eq_true h3]
        show (strings_Trim.f (ofL s) (ofL azs)).bind _ = _
        rw [trim_f s azs (by omega) (by decide) (by decide), Option.bind_some, trim_is s azs isAz azs_iff]
        rfl
      · rw [if_neg (by rw [ofL_size]; omega), decide_eq_false h3]
        rfl
    · rw [if_neg (by rw [ofL_size]; omega), decide_eq_false h2]
      rfl
theorem langK_ofL (s : Bs) : langK (ofL s) = langB s := by unfold langK; rw [lang_f]; rfl
def widthB (s : Bs) : Bool := s == wLong || s == wShort || s == wNarrow
theorem width_f (s : Bs) : pattern_width.f (ofL s) = some (widthB s) := by
  unfold pattern_width.f widthB
  rw [ofL_toList]
  by_cases h1 : s = wLong
  · rw [if_pos h1, h1]; rfl
  · rw [if_neg h1, beq_eq_false_iff_ne.2 h1, Bool.false_or]
    by_cases h2 : s = wShort
    · rw [if_pos h2, h2]; rfl
    · rw [if_neg h2, beq_eq_false_iff_ne.2 h2, Bool.false_or]
theorem widthK_ofL (s : Bs) : widthK (ofL s) = widthB s := by unfold widthK; rw [width_f]; rfl
def isNm (b : UInt8) : Bool := (97 ≤ b && b ≤ 122) || (48 ≤ b && b ≤ 57) || b == 45
def nms : Bs := [97, 98, 99, 100, 101, 102, 103, 104, 105, 106, 107, 108, 109, 110, 111, 112, 113, 114, 115, 116, 117, 118, 119, 120, 121, 122, 48, 49, 50, 51, 52, 53, 54, 55, 56, 57, 45]
set_option maxRecDepth 100000 in
theorem nms_iff (b : UInt8) : nms.contains b = isNm b := by
  have := all_bytes (p := fun b => nms.contains b == isNm b) (by decide) b
  exact beq_iff_eq.1 this
def nameB (s : Bs) : Bool := !s.isEmpty && s.all isNm
theorem name_f (s : Bs) (h : s.length ≤ 100000) : pattern_name.f (ofL s) = some (nameB s) := by
  unfold pattern_name.f nameB
  cases s with
  | nil => rw [if_pos ((ofL_nil_iff []).2 rfl)]; rfl
  | cons b s =>
    rw [if_neg (fun e => absurd ((ofL_nil_iff _).1 e) (by simp))]
    show (strings_Trim.f (ofL (b :: s)) (ofL nms)).bind _ = _
    rw [trim_f (b :: s) nms (by omega) (by decide) (by decide), Option.bind_some, trim_is (b :: s) nms isNm nms_iff]
    rfl
theorem nameK_ofL (s : Bs) (h : s.length ≤ 100000) : nameK (ofL s) = nameB s := by unfold nameK; rw [name_f s h]; rfl
def someB (s : Bs) : Bs := if s = [45] then [] else s
theorem some_f (s : Bs) : pattern_some.f (ofL s) = some (ofL (someB s)) := by
  unfold pattern_some.f someB
  rw [ofL_toList]
  split
  · rfl
  · rfl
theorem someK_ofL (s : Bs) : someK (ofL s) = ofL (someB s) := by unfold someK; rw [some_f]; rfl
def blankP (s : Bs) : Bs := s.map blankC
theorem blankK_ofL (s : Bs) (h : s.length ≤ 100000) : blankK (ofL s) = ofL (blankP s) := by unfold blankK; rw [blank_f s (by omega)]; rfl
def sgnB (s : Bs) : Nat × Nat := (Lib.count (blankP s) [123, 48, 125], Lib.count (blankP s) [123, 49, 125])
theorem sgnK_ofL (s : Bs) (h : s.length ≤ 100000) : sgnK (ofL s) = sgnB s := by unfold sgnK sgnB; rw [blankK_ofL s h]; rfl
def powB (s : Bs) : Bool := match Lib.atoiAll s with
  | .ok v => decide (Lib.itoa v = s) && decide (2 ≤ v) && decide (v ≤ 15)
  | _ => false
theorem powK_ofL (s : Bs) : powK (ofL s) = powB s := by
  have e : ∀ v, decide (itoaV v = ofL s) = decide (Lib.itoa v = s) := fun v => by
    have hv : itoaV v = ofL (Lib.itoa v) := rfl
    rw [hv]
    by_cases h : Lib.itoa v = s
    · rw [decide_eq_true h, decide_eq_true (by rw [h])]
    · rw [decide_eq_false h, decide_eq_false (fun q => h (ofL_inj q))]
  unfold powK powB atoiV
  rw [ofL_data]
  rcases Lib.atoiAll s with v | _ | _
  · dsimp only; rw [e]
  · rfl
  · rfl
theorem textOk (s : Bs) (h : s.length ≤ 100000) : TextOk (ofL s) ∧ (someK (ofL s)).size ≤ 100000 :=
  ⟨⟨by rw [ofL_size]; exact h, by rw [lang_f]; rfl, by rw [width_f]; rfl, by rw [name_f s h]; rfl, by rw [some_f]; rfl, by rw [blank_f s (by omega)]; rfl, by rw [blankK_ofL s h, ofL_size]; unfold blankP; rw [List.length_map]; exact h⟩,
   by rw [someK_ofL, ofL_size]; unfold someB; split; exact Nat.zero_le _; exact h⟩
theorem textOkB (s : ByteArray) (h : s.size ≤ 100000) : TextOk s ∧ (someK s).size ≤ 100000 := by
  have := textOk s.data.toList (by rw [← Lib.size_eq]; exact h)
  rwa [data_ofL] at this
/-! Keys -/
structure P6 where
  kind : Bs
  lang : Bs
  width : Bs
  name : Bs
  cat : Bs
  case_ : Bs
instance : DecidableEq P6 := fun a b =>
  if h : a.kind = b.kind ∧ a.lang = b.lang ∧ a.width = b.width ∧ a.name = b.name ∧ a.cat = b.cat ∧ a.case_ = b.case_ then isTrue (by cases a; cases b; simp at h; simp [h])
  else isFalse (by rintro rfl; exact h ⟨rfl, rfl, rfl, rfl, rfl, rfl⟩)
def enc6 (k : P6) : K6 := ⟨ofL k.kind, ofL k.lang, ofL k.width, ofL k.name, ofL k.cat, ofL k.case_⟩
theorem enc6_inj {a b : P6} (h : enc6 a = enc6 b) : a = b := by
  cases a
  cases b
  unfold enc6 at h
  injection h with h1 h2 h3 h4 h5 h6
  obtain rfl := ofL_inj h1
  obtain rfl := ofL_inj h2
  obtain rfl := ofL_inj h3
  obtain rfl := ofL_inj h4
  obtain rfl := ofL_inj h5
  obtain rfl := ofL_inj h6
  rfl
def kindB (s : Bs) : Nat := if s = wWord then 7 else if s = wPower then 6 else if s = wPrefixed then 5 else if s = wPer ∨ s = wTimes then 4 else 0
theorem eq_ofL (s t : Bs) : (ofL s = ofL t) = (s = t) := propext ⟨ofL_inj, fun h => by rw [h]⟩
theorem kindN_ofL (s : Bs) : kindN (ofL s) = kindB s := by
  unfold kindN kindB
  by_cases h1 : s = wWord
  · rw [if_pos h1, if_pos (show ofL s = bWord by rw [h1]; rfl)]
  rw [if_neg h1, if_neg (fun (e : ofL s = bWord) => h1 (ofL_inj (b := wWord) e))]
  by_cases h2 : s = wPower
  · rw [if_pos h2, if_pos (show ofL s = bPower by rw [h2]; rfl)]
  rw [if_neg h2, if_neg (fun (e : ofL s = bPower) => h2 (ofL_inj (b := wPower) e))]
  by_cases h3 : s = wPrefixed
  · rw [if_pos h3, if_pos (show ofL s = bPrefixed by rw [h3]; rfl)]
  rw [if_neg h3, if_neg (fun (e : ofL s = bPrefixed) => h3 (ofL_inj (b := wPrefixed) e))]
  by_cases h4 : s = wPer ∨ s = wTimes
  · rw [if_pos h4, if_pos (h4.imp (fun h => by rw [h]; rfl) (fun h => by rw [h]; rfl))]
  · rw [if_neg h4, if_neg (fun (e : ofL s = bPer ∨ ofL s = bTimes) => h4 (e.imp (fun h => ofL_inj (b := wPer) h) (fun h => ofL_inj (b := wTimes) h)))]
def keyP : List Bs → Option P6
  | k :: a :: b :: l => if l.length + 3 = kindB k ∧ langB a = true ∧ widthB b = true ∧ ((l.take (kindB k - 4)).all nameB) = true then
      (if k = wWord then (if (sgnB (l.getD 3 [])).1 ≤ 1 ∧ (sgnB (l.getD 3 [])).2 = 0 then some ⟨k, a, b, l.getD 0 [], l.getD 1 [], someB (l.getD 2 [])⟩ else none)
      else if k = wPower then (if (sgnB (l.getD 2 [])).1 = 1 ∧ (sgnB (l.getD 2 [])).2 = 0 ∧ powB (l.getD 0 []) = true then some ⟨k, a, b, l.getD 0 [], someB (l.getD 1 []), []⟩ else none)
      else if k = wPrefixed then (if (sgnB (l.getD 1 [])).1 = 1 ∧ (sgnB (l.getD 1 [])).2 = 0 then some ⟨k, a, b, l.getD 0 [], [], []⟩ else none)
      else (if (sgnB (l.getD 0 [])).1 = 1 ∧ (sgnB (l.getD 0 [])).2 = 1 then some ⟨k, a, b, [], [], []⟩ else none))
    else none
  | _ => none
theorem getD_ofL (l : List Bs) (i : Nat) : (l.map ofL).getD i eS = ofL (l.getD i []) := by
  simp only [List.getD_eq_getElem?_getD, List.getElem?_map]
  cases l[i]? with
  | none => rfl
  | some x => rfl
theorem all_ofL (l : List Bs) (h : ∀ s ∈ l, s.length ≤ 100000) : (l.map ofL).all nameK = l.all nameB := by
  induction l with
  | nil => rfl
  | cons s l ih =>
    rw [List.map_cons, List.all_cons, List.all_cons, nameK_ofL s (h s List.mem_cons_self), ih (fun x hx => h x (List.mem_cons_of_mem _ hx))]
theorem keyW_ofL (l : List Bs) (h : ∀ s ∈ l, s.length ≤ 100000) : keyW (l.map ofL) = (keyP l).map enc6 := by
  match l, h with
  | [], _ => rfl
  | [_], _ => rfl
  | [_, _], _ => rfl
  | k :: a :: b :: l, h =>
    have hl : ∀ s ∈ l, s.length ≤ 100000 := fun s hs => h s (by simp [hs])
    have hg : ∀ i, (l.getD i []).length ≤ 100000 := fun i => by
      rw [List.getD_eq_getElem?_getD]
      cases hi : l[i]? with
      | none => exact Nat.zero_le _
      | some x => exact hl x (List.mem_of_getElem? hi)
    show keyW (ofL k :: ofL a :: ofL b :: l.map ofL) = _
    rw [keyW, keyP, List.length_map, kindN_ofL, langK_ofL, widthK_ofL, ← List.map_take, all_ofL _ (fun s hs => hl s (List.mem_of_mem_take hs))]
    simp only [getD_ofL, sgnK_ofL _ (hg _), someK_ofL, powK_ofL]
    have e1 : (ofL k = bWord) = (k = wWord) := eq_ofL k wWord
    have e2 : (ofL k = bPower) = (k = wPower) := eq_ofL k wPower
    have e3 : (ofL k = bPrefixed) = (k = wPrefixed) := eq_ofL k wPrefixed
    simp only [e1, e2, e3]
    repeat' split
    all_goals first | rfl | contradiction
end Go.Proofs.YthefdpioaapomaaGreatDoor.Pz
