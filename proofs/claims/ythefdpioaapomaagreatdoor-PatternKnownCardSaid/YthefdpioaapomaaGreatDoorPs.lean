/- Layer 22, all rows in plain lists of bytes: texts, parents, chains, what is found. No memory in sight. -/
import Derived.Test.YthefdpioaapomaaGreatDoorPw
namespace Go.Proofs.YthefdpioaapomaaGreatDoor.Pz
set_option linter.unusedVariables false
set_option linter.unusedSimpArgs false
open Go.RowKit Go.Proofs.YthefdpioaapomaaGreatDoorW.PrintWords Go.Proofs.YthefdpioaapomaaGreatDoorW.PrintLast Go.Proofs.YthefdpioaapomaaGreatDoor.Ext Go.Proofs.YthefdpioaapomaaGreatDoorW.PrintMore Go.Proofs.YthefdpioaapomaaGreatDoor.PA Go.Proofs.YthefdpioaapomaaGreatDoor.Pl

abbrev PKs := List (P6 × Bs)
abbrev PPs := List (Bs × Bs)
abbrev PSt := PKs × PPs
def encKs (ks : PKs) : List (K6 × ByteArray) := ks.map fun e => (enc6 e.1, ofL e.2)
def encPs (ps : PPs) : PsW := ps.map fun e => (ofL e.1, ofL e.2)
def encSt (x : PSt) : StW := (encKs x.1, encPs x.2)
def getP : PKs → P6 → Option Bs
  | [], _ => none
  | e :: es, k => if e.1 = k then some e.2 else getP es k
def getPs : PPs → Bs → Option Bs
  | [], _ => none
  | e :: es, k => if e.1 = k then some e.2 else getPs es k
theorem getK_enc (k : P6) : ∀ ks : PKs, getK (encKs ks) (enc6 k) = (getP ks k).map ofL
  | [] => rfl
  | e :: es => by
    show getK ((enc6 e.1, ofL e.2) :: encKs es) (enc6 k) = _
    rw [getK, getP]
    by_cases h : e.1 = k
    · rw [if_pos h, if_pos (by rw [h])]; rfl
    · rw [if_neg h, if_neg (fun q => h (enc6_inj q)), getK_enc k es]
theorem getS_enc (k : Bs) : ∀ ps : PPs, getS (encPs ps) (ofL k) = (getPs ps k).map ofL
  | [] => rfl
  | e :: es => by
    show getS ((ofL e.1, ofL e.2) :: encPs es) (ofL k) = _
    rw [getS, getPs]
    by_cases h : e.1 = k
    · rw [if_pos h, if_pos (by rw [h])]; rfl
    · rw [if_neg h, if_neg (fun q => h (ofL_inj q)), getS_enc k es]
def textP (ks : PKs) (l : List Bs) : Int × PKs := match keyP l with
  | none => (2, ks)
  | some k => match getP ks k with
    | some _ => (10, ks)
    | none => (0, (k, blankP (l.getD (l.length - 1) [])) :: ks)
theorem textW_ofL (ks : PKs) (l : List Bs) (h : ∀ s ∈ l, s.length ≤ 100000) : textW (encKs ks) (l.map ofL) = ((textP ks l).1, encKs (textP ks l).2) := by
  unfold textW textP
  rw [keyW_ofL l h]
  cases keyP l with
  | none => rfl
  | some k =>
    dsimp only [Option.map_some]
    rw [getK_enc]
    cases getP ks k with
    | some x => rfl
    | none =>
      dsimp only [Option.map_none]
      rw [List.length_map, getD_ofL, blankK_ofL _ (by
        rw [List.getD_eq_getElem?_getD]
        cases hi : l[l.length - 1]? with
        | none => exact Nat.zero_le _
        | some x => exact h x (List.mem_of_getElem? hi))]
      rfl
/-- A chain, with so many steps. -/
def chainF (ps : PPs) : Nat → Bs → Option (List Bs)
  | 0, _ => none
  | n + 1, s => if s = wRoot then some [s] else match getPs ps s with
    | none => some [s, wRoot]
    | some p => (chainF ps n p).map (s :: ·)
theorem chainF_ends (ps : PPs) : ∀ (n : Nat) (s : Bs) (f : List Bs), chainF ps n s = some f → Go.Proofs.YthefdpioaapomaaGreatDoor.Ext.Ends (encPs ps) (f.map ofL) (ofL s)
  | 0, _, _, h => by cases h
  | n + 1, s, f, h => by
    rw [chainF] at h
    split at h
    · rename_i hr
      obtain rfl := Option.some.inj h
      exact ⟨rfl, .inl ⟨by rw [hr]; rfl, rfl⟩⟩
    · rename_i hr
      have hr' : ofL s ≠ rootB := fun e => hr (ofL_inj (b := wRoot) e)
      split at h
      · rename_i hg
        obtain rfl := Option.some.inj h
        exact ⟨rfl, .inr ⟨hr', .inl ⟨by rw [getS_enc, hg]; rfl, rfl⟩⟩⟩
      · rename_i p hg
        cases hc : chainF ps n p with
        | none => rw [hc] at h; cases h
        | some c =>
          rw [hc] at h
          obtain rfl := Option.some.inj h
          exact ⟨rfl, .inr ⟨hr', .inr ⟨ofL p, by rw [getS_enc, hg]; rfl, chainF_ends ps n p c hc⟩⟩⟩
def aboveP (ps : PPs) (full : List Bs) : List Bs → Int × PPs
  | [a, b] => if langB a = true ∧ langB b = true then
      (if (getPs ps a).isSome = true then (10, ps) else if a ∈ full then (7, ps) else (0, (a, b) :: ps))
    else (2, ps)
  | _ => (2, ps)
theorem aboveW_ofL (ps : PPs) (full l : List Bs) : aboveW (encPs ps) (full.map ofL) (l.map ofL) = ((aboveP ps full l).1, encPs (aboveP ps full l).2) := by
  match l with
  | [] => rfl
  | [_] => rfl
  | _ :: _ :: _ :: _ => rfl
  | [a, b] =>
    show aboveW (encPs ps) (full.map ofL) [ofL a, ofL b] = _
    rw [aboveW, aboveP, langK_ofL, langK_ofL, getS_enc]
    have hm : (Lib.containsS (full.map ofL) (ofL a) = true) ↔ a ∈ full := by
      rw [Lib.containsS_iff, List.mem_map]
      exact ⟨fun ⟨x, hx, e⟩ => ofL_inj e ▸ hx, fun h => ⟨a, h, rfl⟩⟩
    by_cases h1 : langB a = true ∧ langB b = true
    · rw [if_pos h1, if_pos h1]
      cases getPs ps a with
      | some x => rfl
      | none =>
        dsimp only [Option.map_none]
        have n1 : ¬ (none : Option ByteArray).isSome = true := by simp
        have n2 : ¬ (none : Option Bs).isSome = true := by simp
        rw [if_neg n1, if_neg n2]
        by_cases h2 : a ∈ full
        · rw [if_pos (hm.2 h2), if_pos h2]
        · rw [if_neg (fun q => h2 (hm.1 q)), if_neg h2]
          rfl
    · rw [if_neg h1, if_neg h1]
/-- A row; none: a chain of more than a hundred. -/
def stepP (x : PSt) : List Bs → Option (Int × PSt)
  | [] => some (0, x)
  | k :: l => if kindB k ≠ 0 then some ((textP x.1 (k :: l)).1, ((textP x.1 (k :: l)).2, x.2))
    else if k = wParent then (chainF x.2 100 (l.getD 1 [])).map fun f => ((aboveP x.2 f l).1, (x.1, (aboveP x.2 f l).2))
    else some (0, x)
theorem stepW_ofL (x : PSt) (l : List Bs) (r : Int × PSt) (h : ∀ s ∈ l, s.length ≤ 100000) (hr : stepP x l = some r) : stepW (encSt x) (l.map ofL) = (r.1, encSt r.2) := by
  match l, h, hr with
  | [], _, hr =>
    obtain rfl := Option.some.inj hr
    rfl
  | k :: l, h, hr =>
    show stepW (encSt x) (ofL k :: l.map ofL) = _
    rw [stepP] at hr
    rw [stepW, kindN_ofL]
    split at hr
    · rename_i hk
      obtain rfl := Option.some.inj hr
      rw [if_pos hk]
      have e := textW_ofL x.1 (k :: l) h
      show ((textW (encKs x.1) (List.map ofL (k :: l))).1, ((textW (encKs x.1) (List.map ofL (k :: l))).2, encPs x.2)) = _
      rw [e]
      rfl
    · rename_i hk
      rw [if_neg hk]
      split at hr
      · rename_i hp
        rw [if_pos (by rw [hp]; rfl)]
        cases hc : chainF x.2 100 (l.getD 1 []) with
        | none => rw [hc] at hr; cases hr
        | some f =>
          rw [hc] at hr
          obtain rfl := Option.some.inj hr
          have e1 : chainW (encSt x).2 ((l.map ofL).getD 1 eS) = f.map ofL := by
            rw [getD_ofL]
            exact chainW_eq (chainF_ends x.2 100 _ f hc)
          have e2 := aboveW_ofL x.2 f l
          rw [e1]
          show ((aboveW (encPs x.2) (f.map ofL) (l.map ofL)).1, (encKs x.1, (aboveW (encPs x.2) (f.map ofL) (l.map ofL)).2)) = _
          rw [e2]
          rfl
      · rename_i hp
        obtain rfl := Option.some.inj hr
        rw [if_neg (fun (e : ofL k = bParent) => hp (ofL_inj (b := wParent) e))]
def loadP : List Row → PSt → Option (Int × Int × PSt)
  | [], x => some (0, 0, x)
  | r :: rs, x => (stepP x r.ws).bind fun y => if y.1 = 0 then loadP rs y.2 else some (r.line, y.1, x)
theorem loadW_ofL : ∀ (rs : List Row) (x : PSt) (r : Int × Int × PSt), (∀ r ∈ rs, ∀ s ∈ r.ws, s.length ≤ 100000) → loadP rs x = some r → loadW (rs.map t31) (encSt x) = (r.1, r.2.1, encSt r.2.2)
  | [], x, r, _, h => by
    obtain rfl := Option.some.inj h
    rfl
  | r0 :: rs, x, r, hs, h => by
    show loadW (t31 r0 :: rs.map t31) (encSt x) = _
    rw [loadP] at h
    obtain ⟨y, hy, h⟩ := Option.bind_eq_some_iff.1 h
    have e := stepW_ofL x r0.ws y (hs r0 List.mem_cons_self) hy
    have e' : stepW (encSt x) (t31 r0).f1 = (y.1, encSt y.2) := e
    rw [loadW, e']
    dsimp only
    split at h
    · rename_i h0
      rw [if_pos h0]
      exact loadW_ofL rs y.2 r (fun x hx => hs x (List.mem_cons_of_mem _ hx)) h
    · rename_i h0
      rw [if_neg h0]
      obtain rfl := Option.some.inj h
      rfl
/-! What is found -/
def findP4 (ks : PKs) (kd la wd nm ca : Bs) : List Bs → Option Bs
  | [] => none
  | ct :: r => match getP ks ⟨kd, la, wd, nm, ct, ca⟩ with
    | some x => some x
    | none => findP4 ks kd la wd nm ca r
def findP3 (ks : PKs) (kd la wd nm : Bs) (cts : List Bs) : List Bs → Option Bs
  | [] => none
  | ca :: r => match findP4 ks kd la wd nm ca cts with
    | some x => some x
    | none => findP3 ks kd la wd nm cts r
def findP2 (ks : PKs) (kd la nm : Bs) (cts cas : List Bs) : List Bs → Option Bs
  | [] => none
  | wd :: r => match findP3 ks kd la wd nm cts cas with
    | some x => some x
    | none => findP2 ks kd la nm cts cas r
def findP1 (ks : PKs) (kd nm : Bs) (cts cas wds : List Bs) : List Bs → Option Bs
  | [] => none
  | la :: r => match findP2 ks kd la nm cts cas wds with
    | some x => some x
    | none => findP1 ks kd nm cts cas wds r
theorem find4_enc (ks : PKs) (kd la wd nm ca : Bs) : ∀ l : List Bs, find4 (encKs ks) (ofL kd) (ofL la) (ofL wd) (ofL nm) (ofL ca) (l.map ofL) = (findP4 ks kd la wd nm ca l).map ofL
  | [] => rfl
  | ct :: r => by
    show find4 (encKs ks) (ofL kd) (ofL la) (ofL wd) (ofL nm) (ofL ca) (ofL ct :: r.map ofL) = _
    rw [find4, findP4]
    have e := getK_enc ⟨kd, la, wd, nm, ct, ca⟩ ks
    unfold enc6 at e
    rw [e]
    cases getP ks ⟨kd, la, wd, nm, ct, ca⟩ with
    | some x => rfl
    | none => exact find4_enc ks kd la wd nm ca r
theorem find3_enc (ks : PKs) (kd la wd nm : Bs) (cts : List Bs) : ∀ l : List Bs, find3 (encKs ks) (ofL kd) (ofL la) (ofL wd) (ofL nm) (cts.map ofL) (l.map ofL) = (findP3 ks kd la wd nm cts l).map ofL
  | [] => rfl
  | ca :: r => by
    show find3 (encKs ks) (ofL kd) (ofL la) (ofL wd) (ofL nm) (cts.map ofL) (ofL ca :: r.map ofL) = _
    rw [find3, findP3, find4_enc]
    cases findP4 ks kd la wd nm ca cts with
    | some x => rfl
    | none => exact find3_enc ks kd la wd nm cts r
theorem find2_enc (ks : PKs) (kd la nm : Bs) (cts cas : List Bs) : ∀ l : List Bs, find2 (encKs ks) (ofL kd) (ofL la) (ofL nm) (cts.map ofL) (cas.map ofL) (l.map ofL) = (findP2 ks kd la nm cts cas l).map ofL
  | [] => rfl
  | wd :: r => by
    show find2 (encKs ks) (ofL kd) (ofL la) (ofL nm) (cts.map ofL) (cas.map ofL) (ofL wd :: r.map ofL) = _
    rw [find2, findP2, find3_enc]
    cases findP3 ks kd la wd nm cts cas with
    | some x => rfl
    | none => exact find2_enc ks kd la nm cts cas r
theorem find1_enc (ks : PKs) (kd nm : Bs) (cts cas wds : List Bs) : ∀ l : List Bs, find1 (encKs ks) (ofL kd) (ofL nm) (cts.map ofL) (cas.map ofL) (wds.map ofL) (l.map ofL) = (findP1 ks kd nm cts cas wds l).map ofL
  | [] => rfl
  | la :: r => by
    show find1 (encKs ks) (ofL kd) (ofL nm) (cts.map ofL) (cas.map ofL) (wds.map ofL) (ofL la :: r.map ofL) = _
    rw [find1, findP1, find2_enc]
    cases findP2 ks kd la nm cts cas wds with
    | some x => rfl
    | none => exact find1_enc ks kd nm cts cas wds r
def widthsB (s : Bs) : List Bs := if s = wNarrow then [wNarrow, wShort, wLong] else if s = wShort then [wShort, wLong] else [wLong]
theorem widths_f (s : Bs) : pattern_Widths.f (ofL s) = some ((widthsB s).map ofL) := by
  unfold pattern_Widths.f widthsB
  rw [ofL_toList]
  by_cases h1 : s = wNarrow
  · rw [if_pos h1, if_pos h1]
    rfl
  · rw [if_neg h1, if_neg h1]
    by_cases h2 : s = wShort
    · rw [if_pos h2, if_pos h2]
      rfl
    · rw [if_neg h2, if_neg h2]
      rfl
abbrev wOther : Bs := [111, 116, 104, 101, 114]
def catsB (kd ct : Bs) : List Bs := if kd = wWord then [ct, wOther] else if kd = wPower then [ct, []] else [ct]
theorem cats_f (kd la wd nm ct ca : Bs) : pattern_cats.f (ofL kd) (ofL la) (ofL wd) (ofL nm) (ofL ct) (ofL ca) = some ((catsB kd ct).map ofL) := by
  unfold pattern_cats.f catsB
  rw [ofL_toList]
  by_cases h1 : kd = wWord
  · rw [if_pos h1, if_pos h1]
    rfl
  · rw [if_neg h1, if_neg h1]
    by_cases h2 : kd = wPower
    · rw [if_pos h2, if_pos h2]
      rfl
    · rw [if_neg h2, if_neg h2]
      rfl
end Go.Proofs.YthefdpioaapomaaGreatDoor.Pz
