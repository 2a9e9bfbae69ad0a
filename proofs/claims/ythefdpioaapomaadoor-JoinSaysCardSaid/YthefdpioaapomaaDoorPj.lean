/- What the walked texts of layer 25 come to, in plain lists of bytes: Load, Find, Join. No memory in sight. -/
import Derived.Test.YthefdpioaapomaaDoorJoinL
import Derived.Test.YthefdpioaapomaaDoorPv7
namespace Go.Proofs.YthefdpioaapomaaDoor.Pj
set_option linter.unusedVariables false
set_option linter.unusedSimpArgs false
open Go.RowKit Go.Proofs.YthefdpioaapomaaDoorW.PrintWords Go.Proofs.YthefdpioaapomaaDoorW.PrintLast Go.Proofs.YthefdpioaapomaaDoor.Ext Go.Proofs.YthefdpioaapomaaDoorW.PrintMore Go.Proofs.YthefdpioaapomaaDoor.PA Go.Proofs.YthefdpioaapomaaDoor.PJ Go.Proofs.YthefdpioaapomaaDoor.Pl Go.Proofs.YthefdpioaapomaaDoor.Pu7

abbrev PKey := Bs × Bs
abbrev PL := List (PKey × List Bs)
def encK (k : PKey) : LKey := (ofL k.1, ofL k.2)
def encP (fs : PL) : List (LKey × List ByteArray) := fs.map fun f => (encK f.1, f.2.map ofL)
theorem encK_inj {a b : PKey} (h : encK a = encK b) : a = b := by
  unfold encK at h
  obtain ⟨h1, h2⟩ := Prod.mk.inj h
  exact Prod.ext (ofL_inj h1) (ofL_inj h2)
def getP : PL → PKey → Option (List Bs)
  | [], _ => none
  | f :: fs, k => if f.1 = k then some f.2 else getP fs k
theorem getP_enc (k : PKey) : ∀ fs : PL, getF (encP fs) (encK k) = (getP fs k).map (·.map ofL)
  | [] => rfl
  | f :: fs => by
    show getF ((encK f.1, f.2.map ofL) :: encP fs) (encK k) = _
    rw [getF, getP]
    by_cases h : f.1 = k
    · rw [if_pos h, if_pos (by rw [h])]
      rfl
    · rw [if_neg h, if_neg (fun e => h (encK_inj e)), getP_enc k fs]

/-! A language, a width, a text -/
def isAz (b : UInt8) : Bool := 97 ≤ b && b ≤ 122
def azs : Bs := [97, 98, 99, 100, 101, 102, 103, 104, 105, 106, 107, 108, 109, 110, 111, 112, 113, 114, 115, 116, 117, 118, 119, 120, 121, 122]
theorem dropWhile_nil {p : UInt8 → Bool} : ∀ l : Bs, l.dropWhile p = [] ↔ ∀ x ∈ l, p x = true
  | [] => by simp
  | b :: l => by
    rw [List.dropWhile_cons]
    cases h : p b with
    | true => rw [if_pos rfl, dropWhile_nil l]; simp [h]
    | false => rw [if_neg (by decide)]; simp [h]
theorem trimS_nil (l cs : Bs) : (Lib.trimS l cs = []) ↔ l.all (cs.contains ·) = true := by
  unfold Lib.trimS Lib.trimLeftS Lib.trimRightS
  rw [dropWhile_nil, List.all_eq_true]
  constructor
  · intro h x hx
    have hx' : x ∈ l.reverse.takeWhile (cs.contains ·) ++ l.reverse.dropWhile (cs.contains ·) := by rw [List.takeWhile_append_dropWhile]; exact List.mem_reverse.2 hx
    rcases List.mem_append.1 hx' with h1 | h1
    · have := List.all_takeWhile (l := l.reverse) (p := (cs.contains ·))
      rw [List.all_eq_true] at this
      exact this x h1
    · exact h x (List.mem_reverse.2 h1)
  · intro h x hx
    have := (List.dropWhile_sublist (cs.contains ·) (l := l.reverse)).subset (List.mem_reverse.1 hx)
    exact h x (List.mem_reverse.1 this)
theorem all_bytes {p : UInt8 → Bool} (h : ∀ n : Nat, n < 256 → p (UInt8.ofNat n) = true) (b : UInt8) : p b = true := by
  have := h b.toNat b.toNat_lt
  rwa [UInt8.ofNat_toNat] at this
set_option maxRecDepth 100000 in
theorem azs_iff (b : UInt8) : azs.contains b = isAz b := by
  have := all_bytes (p := fun b => azs.contains b == isAz b) (by decide) b
  exact beq_iff_eq.1 this
theorem trim_f (w cs : Bs) (hw : w.length ≤ 9223372036854775807) (hc : cs.length < 4294967281) (ha : cs.all (fun b => decide (b.toNat < 128)) = true) : strings_Trim.f (ofL w) (ofL cs) = some (ofL (Lib.trimS w cs)) := by
  unfold strings_Trim.f
  rw [if_pos (by rw [ofL_size]; exact hw), if_pos (by rw [ofL_size]; exact hc), if_pos (by rw [ofL_data]; exact ha)]
  rfl
theorem trim_is (w cs : Bs) (p : UInt8 → Bool) (h : ∀ b, cs.contains b = p b) : ((ofL (Lib.trimS w cs)).toList == ([] : List UInt8)) = w.all p := by
  rw [beq_empty, Bool.eq_iff_iff, List.isEmpty_iff, trimS_nil]
  have : (fun x => cs.contains x) = p := funext h
  rw [this]
abbrev wRoot : Bs := [114, 111, 111, 116]
abbrev wLong : Bs := [108, 111, 110, 103]
abbrev wShort : Bs := [115, 104, 111, 114, 116]
abbrev wNarrow : Bs := [110, 97, 114, 114, 111, 119]
def langB (s : Bs) : Bool := s == wRoot || (decide (2 ≤ s.length) && decide (s.length ≤ 3) && s.all isAz)
theorem lang_f (s : Bs) : join_lang.f (ofL s) = some (langB s) := by
  unfold join_lang.f langB
  rw [ofL_toList]
  by_cases h0 : s = wRoot
  · rw [if_pos h0, h0]
    rfl
  · rw [if_neg h0, beq_eq_false_iff_ne.2 h0, Bool.false_or]
    by_cases h2 : 2 ≤ s.length
    · rw [if_pos (by rw [ofL_size]; omega), decide_eq_true h2]
      by_cases h3 : s.length ≤ 3
      · rw [if_pos (by rw [ofL_size]; omega), decide_eq_true h3]
        show (strings_Trim.f (ofL s) (ofL azs)).bind _ = _
        rw [trim_f s azs (by omega) (by decide) (by decide), Option.bind_some, trim_is s azs isAz azs_iff]
        rfl
      · rw [if_neg (by rw [ofL_size]; omega), decide_eq_false h3]
        rfl
    · rw [if_neg (by rw [ofL_size]; omega), decide_eq_false h2]
      rfl
theorem langT_ofL (s : Bs) : langT (ofL s) = langB s := by unfold langT; rw [lang_f]; rfl
def widthB (s : Bs) : Bool := s == wLong || s == wShort || s == wNarrow
theorem widthT_ofL (s : Bs) : widthT (ofL s) = widthB s := by
  unfold widthT widthB
  rw [Bool.eq_iff_iff, Lib.containsS_iff]
  have e : ∀ x : Bs, ofL s = ofL x ↔ s = x := fun x => ⟨ofL_inj, fun h => by rw [h]⟩
  show ofL s ∈ [ofL wLong, ofL wShort, ofL wNarrow] ↔ _
  simp only [List.mem_cons, List.not_mem_nil, or_false, e, Bool.or_eq_true, beq_iff_eq, or_assoc]
def blankP (s : Bs) : Bs := s.map blankC
theorem blankT_ofL (s : Bs) (h : s.length < 4294967281) : blankT (ofL s) = ofL (blankP s) := by unfold blankT; rw [blank_f s h]; rfl
abbrev s0 : Bs := [123, 48, 125]
abbrev s1 : Bs := [123, 49, 125]
def goodP (t : Bs) : Bool := decide (Lib.count t s0 = 1) && decide (Lib.count t s1 = 1)
theorem goodT_ofL (t : Bs) : goodT (ofL t) = goodP t := rfl
theorem textsT_ofL : ∀ (l : List Bs) (acc : List ByteArray), (∀ s ∈ l, s.length < 4294967281) → textsT (l.map ofL) acc = if (l.all fun s => goodP (blankP s)) = true then some (acc ++ (l.map blankP).map ofL) else none
  | [], acc, _ => by simp [textsT]
  | s :: l, acc, h => by
    show textsT (ofL s :: l.map ofL) acc = _
    rw [textsT, blankT_ofL s (h s List.mem_cons_self), goodT_ofL, textsT_ofL l _ (fun x hx => h x (List.mem_cons_of_mem _ hx)), List.all_cons]
    cases goodP (blankP s) with
    | true =>
      rw [if_pos rfl, Bool.true_and]
      simp
    | false => rw [if_neg (by decide), Bool.false_and, if_neg (by decide)]

/-! A row, all rows -/
def rowP (fs : PL) : List Bs → Int × PL
  | a :: b :: l => if l.length = 4 ∧ langB a = true ∧ widthB b = true then
      (if (l.all fun s => goodP (blankP s)) = true then
        match getP fs (a, b) with
        | some _ => (10, fs)
        | none => (0, ((a, b), l.map blankP) :: fs)
      else (2, fs))
    else (2, fs)
  | _ => (2, fs)
theorem rowL_enc (fs : PL) (ws : List Bs) (h : ∀ s ∈ ws, s.length < 4294967281) : rowL (encP fs) (ws.map ofL) = ((rowP fs ws).1, encP (rowP fs ws).2) := by
  match ws, h with
  | [], _ => rfl
  | [_], _ => rfl
  | a :: b :: l, h =>
    show rowL (encP fs) (ofL a :: ofL b :: l.map ofL) = _
    rw [rowL, rowP, List.length_map, langT_ofL, widthT_ofL]
    by_cases h1 : l.length = 4 ∧ langB a = true ∧ widthB b = true
    · rw [if_pos h1, if_pos h1, textsT_ofL l [] (fun x hx => h x (by simp [hx]))]
      by_cases h2 : (l.all fun s => goodP (blankP s)) = true
      · rw [if_pos h2, if_pos h2]
        dsimp only
        rw [show (ofL a, ofL b) = encK (a, b) from rfl, getP_enc]
        cases getP fs (a, b) with
        | some x => rfl
        | none => rfl
      · rw [if_neg h2, if_neg h2]
    · rw [if_neg h1, if_neg h1]
def loadP : List Row → PL → Int × Int × PL
  | [], fs => (0, 0, fs)
  | r :: rs, fs => if (rowP fs (r.ws.drop 1)).1 = 0 then loadP rs (rowP fs (r.ws.drop 1)).2 else (r.line, (rowP fs (r.ws.drop 1)).1, fs)
def encR (x : Int × Int × PL) : Int × Int × List (LKey × List ByteArray) := (x.1, x.2.1, encP x.2.2)
theorem loadGo_enc : ∀ (rs : List Row) (fs : PL), (∀ r ∈ rs, ∀ s ∈ r.ws, s.length < 4294967281) → loadGo (rs.map t31) (encP fs) = encR (loadP rs fs)
  | [], fs, _ => rfl
  | r :: rs, fs, h => by
    show loadGo (t31 r :: rs.map t31) (encP fs) = _
    have hd : (t31 r).f1.drop 1 = (r.ws.drop 1).map ofL := by show (r.ws.map ofL).drop 1 = _; rw [List.map_drop]
    have hw : ∀ s ∈ r.ws.drop 1, s.length < 4294967281 := fun s hs => h r List.mem_cons_self s (List.mem_of_mem_drop hs)
    rw [loadGo, loadP, hd, rowL_enc fs _ hw]
    dsimp only
    by_cases h0 : (rowP fs (r.ws.drop 1)).1 = 0
    · rw [if_pos h0, if_pos h0, loadGo_enc rs _ (fun x hx => h x (List.mem_cons_of_mem _ hx))]
    · rw [if_neg h0, if_neg h0]
      rfl
abbrev wList : Bs := [108, 105, 115, 116]
/-- What a text's lists are. -/
def loadB (t : Bs) : Int × Int × PL := if (parseB t).2.2 = 0 then loadP ((parseB t).1.filter (isKind wList)) [] else (0, (parseB t).2.2, [])
/-- What lists of the law hold. -/
def FourP (m : Nat) (fs : PL) : Prop := ∀ f ∈ fs, f.2.length = 4 ∧ ∀ t ∈ f.2, t.length ≤ m
theorem rowP_four {m : Nat} {fs : PL} {ws : List Bs} (h : FourP m fs) (hw : ∀ s ∈ ws, s.length ≤ m) : FourP m (rowP fs ws).2 := by
  match ws, hw with
  | [], _ => exact h
  | [_], _ => exact h
  | a :: b :: l, hw =>
    rw [rowP]
    by_cases h1 : l.length = 4 ∧ langB a = true ∧ widthB b = true
    · rw [if_pos h1]
      by_cases h2 : (l.all fun s => goodP (blankP s)) = true
      · rw [if_pos h2]
        cases getP fs (a, b) with
        | some x => exact h
        | none =>
          intro f hf
          rcases List.mem_cons.1 hf with rfl | hf
          · refine ⟨by rw [List.length_map]; exact h1.1, fun t ht => ?_⟩
            obtain ⟨s, hs, rfl⟩ := List.mem_map.1 ht
            unfold blankP
            rw [List.length_map]
            exact hw s (by simp [hs])
          · exact h f hf
      · rw [if_neg h2]
        exact h
    · rw [if_neg h1]
      exact h
theorem loadP_four {m : Nat} : ∀ (rs : List Row) (fs : PL), FourP m fs → (∀ r ∈ rs, ∀ s ∈ r.ws, s.length ≤ m) → FourP m (loadP rs fs).2.2
  | [], fs, h, _ => h
  | r :: rs, fs, h, hw => by
    rw [loadP]
    have h1 := rowP_four (ws := r.ws.drop 1) h (fun s hs => hw r List.mem_cons_self s (List.mem_of_mem_drop hs))
    split
    · exact loadP_four rs _ h1 (fun x hx => hw x (List.mem_cons_of_mem _ hx))
    · exact h

/-! Find, Join -/
def findPW (fs : PL) (a : Bs) : List Bs → Option (List Bs)
  | [] => none
  | b :: ws => match getP fs (a, b) with
    | some x => some x
    | none => findPW fs a ws
def findP (fs : PL) (ws : List Bs) : List Bs → Option (List Bs)
  | [] => none
  | a :: ch => match findPW fs a ws with
    | some x => some x
    | none => findP fs ws ch
theorem findW_enc (fs : PL) (a : Bs) : ∀ ws : List Bs, findW (encP fs) (ofL a) (ws.map ofL) = (findPW fs a ws).map (·.map ofL)
  | [] => rfl
  | b :: ws => by
    show findW (encP fs) (ofL a) (ofL b :: ws.map ofL) = _
    rw [findW, findPW, show (ofL a, ofL b) = encK (a, b) from rfl, getP_enc]
    cases getP fs (a, b) with
    | some x => rfl
    | none => exact findW_enc fs a ws
theorem findL_enc (fs : PL) (ws : List Bs) : ∀ ch : List Bs, findL (encP fs) (ws.map ofL) (ch.map ofL) = (findP fs ws ch).map (·.map ofL)
  | [] => rfl
  | a :: ch => by
    show findL (encP fs) (ws.map ofL) (ofL a :: ch.map ofL) = _
    rw [findL, findP, findW_enc]
    cases findPW fs a ws with
    | some x => rfl
    | none => exact findL_enc fs ws ch
def widthsB (s : Bs) : List Bs := if s = wNarrow then [wNarrow, wShort, wLong] else if s = wShort then [wShort, wLong] else [wLong]
theorem widths_f (s : Bs) : pattern_Widths.f (ofL s) = some ((widthsB s).map ofL) := by
  unfold pattern_Widths.f widthsB
  rw [ofL_toList]
  by_cases h1 : s = wNarrow
  · rw [if_pos h1, if_pos h1]
    rfl
  · rw [if_neg h1, if_neg h1]
    by_cases h2 : s = wShort
    · rw [if_pos h2, if_pos h2]
      rfl
    · rw [if_neg h2, if_neg h2]
      rfl
def fillP (a : List Bs) (t : Bs) : Bs := fillB (a.map ofL) t
theorem fillX_ofL (a : List Bs) (t : Bs) : fillX (a.map ofL) (ofL t) = ofL (fillP a t) := rfl
def midP (l : List Bs) (t : Bs) : Nat → Bs → Bs
  | 0, s => s
  | i + 1, s => midP l t i (fillP [l.getD (i + 1) [], s] t)
theorem getD_ofL (l : List Bs) (i : Nat) : (l.map ofL).getD i eB = ofL (l.getD i []) := by
  simp only [List.getD_eq_getElem?_getD, List.getElem?_map]
  cases l[i]? with
  | none => rfl
  | some x => rfl
theorem midJ_ofL (l : List Bs) (t : Bs) : ∀ (i : Nat) (s : Bs), midJ (l.map ofL) (ofL t) i (ofL s) = ofL (midP l t i s)
  | 0, s => rfl
  | i + 1, s => by
    rw [midJ, midP, getD_ofL]
    exact midJ_ofL l t i _
def joinP (fs : PL) (ws chain l : List Bs) : Bs × Bool :=
  if l.length = 0 then ([], true) else if l.length = 1 then (l.getD 0 [], true) else
  match findP fs ws chain with
  | none => ([], false)
  | some t => if l.length = 2 then (fillP l (t.getD 0 []), true) else
    (fillP [l.getD 0 [], midP l (t.getD 2 []) (l.length - 3) (fillP [l.getD (l.length - 2) [], l.getD (l.length - 1) []] (t.getD 3 []))] (t.getD 1 []), true)
theorem joinT_ofL (fs : PL) (ws chain l : List Bs) : joinT (encP fs) (ws.map ofL) (chain.map ofL) (l.map ofL) = (ofL (joinP fs ws chain l).1, (joinP fs ws chain l).2) := by
  unfold joinT joinP
  rw [List.length_map]
  by_cases h0 : l.length = 0
  · rw [if_pos h0, if_pos h0]
    rfl
  · rw [if_neg h0, if_neg h0]
    by_cases h1 : l.length = 1
    · rw [if_pos h1, if_pos h1, getD_ofL]
    · rw [if_neg h1, if_neg h1, findL_enc]
      cases findP fs ws chain with
      | none => rfl
      | some t =>
        simp only [Option.map_some]
        by_cases h2 : l.length = 2
        · rw [if_pos h2, if_pos h2, getD_ofL]
          rfl
        · rw [if_neg h2, if_neg h2]
          simp only [getD_ofL]
          have e := fillX_ofL [l.getD (l.length - 2) [], l.getD (l.length - 1) []] (t.getD 3 [])
          simp only [List.map_cons, List.map_nil] at e
          rw [e, midJ_ofL]
          rfl

/-! The contracts, in plain lists -/
theorem wordOk (s : Bs) (h : s.length ≤ 100000) : WordOk (ofL s) :=
  ⟨by rw [ofL_size]; unfold maxLen; omega, by rw [lang_f]; rfl, by rw [blank_f s (by omega)]; rfl, by rw [blankT_ofL s (by omega), ofL_size]; unfold blankP; rw [List.length_map]; omega⟩
theorem enc_four {fs : PL} (h : FourP 120 fs) : ∀ f ∈ encP fs, f.2.length = 4 ∧ ∀ t ∈ f.2, t.size ≤ 120 := by
  intro f hf
  obtain ⟨g, hg, rfl⟩ := List.mem_map.1 hf
  obtain ⟨h1, h2⟩ := h g hg
  refine ⟨by dsimp only; rw [List.length_map]; exact h1, fun t ht => ?_⟩
  obtain ⟨s, hs, rfl⟩ := List.mem_map.1 ht
  rw [ofL_size]
  exact h2 s hs
/-- Rows that Load may be asked of. -/
theorem loadP_any (k : Nat) (rs : List Row) (A : Option Addr) (c : Nat) (w : World) (hG : Glob w) (hC : Kd.C k31 w A rs.length (rs.map t31)) (hc : rs.length ≤ c) (hl : rs.length ≤ 100000) (hw : ∀ r ∈ rs, ∀ s ∈ r.ws, s.length ≤ 100000)
    (hf : rows_Of.f k (rs.map t31) (ofL wList) = some ((rs.filter (isKind wList)).map t31)) :
    Calls Tryd.prog 59 #[.slice A rs.length c] w fun e w' => LoadsAt w' e (encR (loadP (rs.filter (isKind wList)) [])) ∧ Below w.heap.size w w' := by
  have e : (rs.map t31).length = rs.length := List.length_map _
  have hsub : ∀ r ∈ rs.filter (isKind wList), r ∈ rs := fun r hr => (List.mem_filter.1 hr).1
  have h := load_any k (rs.map t31) _ A c w hG (by rw [e]; exact hC) (by rw [e]; exact hc) hf
    (by rw [List.length_map]; have := List.length_filter_le (isKind wList) rs; unfold maxLen; omega)
    (by
      intro r hr
      obtain ⟨x, hx, rfl⟩ := List.mem_map.1 hr
      have hk := (List.mem_filter.1 hx).2
      refine ⟨fun h0 => ?_, fun s hs => ?_⟩
      · have h1 : x.ws.map ofL = [] := h0
        rw [List.map_eq_nil_iff] at h1
        unfold isKind at hk
        rw [h1] at hk
        cases hk
      · obtain ⟨y, hy, rfl⟩ := List.mem_map.1 (List.mem_of_mem_drop hs)
        exact wordOk y (hw x (hsub x hx) y hy))
  rw [e, show ([] : List (LKey × List ByteArray)) = encP [] from rfl, loadGo_enc _ _ (fun r hr s hs => by have := hw r (hsub r hr) s hs; omega)] at h
  exact h
theorem widths_small (s : Bs) : ∀ b ∈ (widthsB s).map ofL, b.size ≤ maxLen := by
  intro b hb
  obtain ⟨x, hx, rfl⟩ := List.mem_map.1 hb
  rw [ofL_size]
  unfold widthsB at hx
  have key : ∀ y : Bs, y.length ≤ 10 → y.length ≤ maxLen := fun y hy => by unfold maxLen; omega
  split at hx
  · simp only [List.mem_cons, List.not_mem_nil, or_false] at hx
    rcases hx with rfl | rfl | rfl <;> exact key _ (by decide)
  · split at hx
    · simp only [List.mem_cons, List.not_mem_nil, or_false] at hx
      rcases hx with rfl | rfl <;> exact key _ (by decide)
    · simp only [List.mem_cons, List.not_mem_nil, or_false] at hx
      subst hx
      exact key _ (by decide)
theorem findP_any (B M n : Nat) (fs : PL) (A : Option Addr) (c : Nat) (chain : List Bs) (s : Bs) (w : World) (hG : Glob w) (hL : ListsAt w B M n (encP fs)) (hC : Kd.C Kd.string w A chain.length (chain.map ofL)) (hc : chain.length ≤ c) (hch : ∀ a ∈ chain, a.length ≤ maxLen) (hfs : FourP 120 fs) (r : Option (List Bs)) (hr : findP fs (widthsB s) chain = r) :
    Calls Tryd.prog 55 #[.pointer (some ⟨B, 0, none⟩), .slice A chain.length c, .string (ofL s)] w fun e w' => FoundAt w' e (r.map (·.map ofL)) ∧ Below w.heap.size w w' := by
  subst hr
  have e1 : (chain.map ofL).length = chain.length := List.length_map _
  have h := find_any B M n (encP fs) A c (chain.map ofL) _ (ofL s) w hG hL (by rw [e1]; exact hC) (by rw [e1]; exact hc) (widths_f s) (widths_small s) (by intro a ha; obtain ⟨x, hx, rfl⟩ := List.mem_map.1 ha; rw [ofL_size]; exact hch x hx) (fun f hf => by have := (enc_four hfs f hf).1; omega)
  rw [e1, findL_enc] at h
  exact h
theorem joinP_any (B M n : Nat) (fs : PL) (A A3 : Option Addr) (c c3 : Nat) (chain l : List Bs) (s : Bs) (w : World) (hG : Glob w) (hL : ListsAt w B M n (encP fs)) (hC : Kd.C Kd.string w A chain.length (chain.map ofL)) (hc : chain.length ≤ c) (hC3 : Kd.C Kd.string w A3 l.length (l.map ofL)) (hc3 : l.length ≤ c3)
    (hch : ∀ a ∈ chain, a.length ≤ maxLen) (hfs : FourP 120 fs) (hl8 : l.length ≤ 8) (hl30 : ∀ x ∈ l, x.length ≤ 30) :
    Calls Tryd.prog 54 #[.pointer (some ⟨B, 0, none⟩), .slice A chain.length c, .string (ofL s), .slice A3 l.length c3] w fun e w' => e = .returned (.tuple #[.string (ofL (joinP fs (widthsB s) chain l).1), .bool (joinP fs (widthsB s) chain l).2]) ∧ Below w.heap.size w w' := by
  have e1 : (chain.map ofL).length = chain.length := List.length_map _
  have e2 : (l.map ofL).length = l.length := List.length_map _
  have h := join_any B M n (encP fs) A A3 c c3 (chain.map ofL) _ (l.map ofL) (ofL s) w hG hL (by rw [e1]; exact hC) (by rw [e1]; exact hc) (by rw [e2]; exact hC3) (by rw [e2]; exact hc3) (widths_f s)
    (widths_small s)
    (by intro a ha; obtain ⟨x, hx, rfl⟩ := List.mem_map.1 ha; rw [ofL_size]; exact hch x hx) (enc_four hfs) (by rw [e2]; exact hl8) (by intro a ha; obtain ⟨x, hx, rfl⟩ := List.mem_map.1 ha; rw [ofL_size]; exact hl30 x hx)
  rw [e1, e2, joinT_ofL] at h
  exact h
end Go.Proofs.YthefdpioaapomaaDoor.Pj
