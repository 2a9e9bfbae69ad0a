/- Plain laws of rows: what a reading leaves, rows that are told read again, a text behind a text. No memory in sight. -/
import Derived.Test.YthefdpioaapomaaDoorPv7
namespace Go.Proofs.YthefdpioaapomaaDoor.Pu7
set_option linter.unusedVariables false
set_option linter.unusedSimpArgs false
open Go.RowKit Go.Proofs.YthefdpioaapomaaDoorW.PrintWords Go.Proofs.YthefdpioaapomaaDoorW.PrintLast Go.Proofs.YthefdpioaapomaaDoor.Ext Go.Proofs.YthefdpioaapomaaDoorW.PrintMore Go.Proofs.YthefdpioaapomaaDoor.PA Go.Proofs.YthefdpioaapomaaDoor.Pl

def GoodW (w : Bs) : Prop := w ≠ [] ∧ isSign w = false ∧ ∀ b ∈ w, b ≠ (32 : UInt8) ∧ isOdd b = false
def Good (r : Row) : Prop := r.ws ≠ [] ∧ r.ws.length ≤ 24 ∧ ∀ w ∈ r.ws, GoodW w
def bulk (xs : List Bs) : Nat := (xs.map (fun w => w.length + 1)).sum
theorem bulk_cons (w : Bs) (xs : List Bs) : bulk (w :: xs) = w.length + 1 + bulk xs := by simp [bulk]
theorem bulk_keep : ∀ xs : List Bs, bulk (keep xs) ≤ bulk xs
  | [] => Nat.le_refl _
  | w :: xs => by
    have ih := bulk_keep xs
    rw [bulk_cons]
    cases hs : isSign w with
    | true => rw [keep_sign hs]; exact Nat.zero_le _
    | false =>
      by_cases hw : w = []
      · rw [hw, keep_empty]; omega
      · rw [keep_word hs hw, bulk_cons]; omega
theorem joinW_len : ∀ ws : List Bs, ws ≠ [] → (joinW ws).length + 1 = bulk ws
  | [], h => absurd rfl h
  | [w], _ => by rw [joinW_one, bulk_cons]; rfl
  | w :: v :: ws, _ => by
    have ih := joinW_len (v :: ws) (by simp)
    rw [joinW_cons, bulk_cons, ← ih]
    simp
    omega
theorem good_of_line {l : Bs} (ho : l.any isOdd = false) {w : Bs} (h : w ∈ wordsOf l) : GoodW w := by
  obtain ⟨h1, h2, h3⟩ := wordsOf_mem h
  refine ⟨h2, h3, fun b hb => ?_⟩
  obtain ⟨m1, m2⟩ := splitC_mem 32 l w h1 b hb
  refine ⟨m2, ?_⟩
  rw [List.any_eq_false] at ho
  simpa using ho b m1
theorem parseGo_spec : ∀ (ls : List Bs) (i : Nat) (out : List Row), out.length ≤ 2000 →
    ((parseGo ls i out).2.2 = 0 ∧ (parseGo ls i out).2.1 = 0 ∧ ∃ R, (parseGo ls i out).1 = out ++ R ∧ (out ++ R).length ≤ 2000 ∧ R.length ≤ ls.length ∧ (∀ r ∈ R, Good r) ∧ (showW R).length ≤ bulk ls)
    ∨ ((parseGo ls i out).2.2 ≠ 0 ∧ 1 ≤ (parseGo ls i out).2.1 ∧ (parseGo ls i out).1 = [])
  | [], i, out, h => .inl ⟨rfl, rfl, [], (List.append_nil _).symm, by simpa using h, Nat.le_refl _, by simp, Nat.le_refl _⟩
  | l :: ls, i, out, h => by
    rw [parseGo]
    by_cases hb : l.any isOdd = true ∨ 24 < (wordsOf l).length
    · rw [if_pos hb]
      exact .inr ⟨show (2 : Int) ≠ 0 by decide, by show (1 : Int) ≤ (i : Int) + 1; omega, rfl⟩
    · rw [if_neg hb]
      by_cases h0 : (wordsOf l).length = 0
      · rw [if_pos h0]
        rcases parseGo_spec ls (i + 1) out h with ⟨e1, e2, R, e3, e4, e5, e6, e7⟩ | e
        · exact .inl ⟨e1, e2, R, e3, e4, by simp; omega, e6, by rw [bulk_cons]; omega⟩
        · exact .inr e
      · rw [if_neg h0]
        by_cases h2 : out.length = 2000
        · rw [if_pos h2]
          exact .inr ⟨show (11 : Int) ≠ 0 by decide, by show (1 : Int) ≤ (i : Int) + 1; omega, rfl⟩
        · rw [if_neg h2]
          rcases parseGo_spec ls (i + 1) (out ++ [(⟨(i : Int) + 1, wordsOf l⟩ : Row)]) (by simp; omega) with ⟨e1, e2, R, e3, e4, e5, e6, e7⟩ | e
          · refine .inl ⟨e1, e2, ⟨(i : Int) + 1, wordsOf l⟩ :: R, by rw [e3, List.append_assoc]; rfl, by rw [List.append_assoc] at e4; exact e4, by simp; omega, ?_, ?_⟩
            · intro r hr
              rcases List.mem_cons.1 hr with rfl | hr
              · exact ⟨fun e => h0 (by rw [show wordsOf l = [] from e]; rfl), by have := fun h => hb (.inr h); show (wordsOf l).length ≤ 24; omega, fun w hw => good_of_line (by have := fun h => hb (.inl h); simpa using this) hw⟩
              · exact e6 r hr
            · rw [showW_cons, bulk_cons]
              have k1 := joinW_len (wordsOf l) (fun e => h0 (by rw [e]; rfl))
              have k2 := bulk_keep (splitC 32 l)
              have k3 : bulk (splitC 32 l) = l.length + 1 := splitC_total 32 l
              rw [← wordsOf_keep] at k2
              simp only [List.length_append, List.length_singleton]
              omega
          · exact .inr e
theorem bulk_split (t : Bs) : bulk (splitC 10 t) = t.length + 1 := splitC_total 10 t
theorem parseB_spec (t : Bs) : ((parseB t).2.2 = 0 ∧ (parseB t).2.1 = 0 ∧ (parseB t).1.length ≤ 2000 ∧ (∀ r ∈ (parseB t).1, Good r) ∧ (showW (parseB t).1).length ≤ t.length + 1) ∨ ((parseB t).2.2 ≠ 0 ∧ (parseB t).1 = []) := by
  unfold parseB
  split
  · exact .inr ⟨by decide, rfl⟩
  · rcases parseGo_spec (splitC 10 t) 0 [] (by decide) with ⟨e1, e2, R, e3, e4, e5, e6, e7⟩ | ⟨e1, e2, e3⟩
    · rw [bulk_split] at e7
      rw [List.nil_append] at e3 e4
      exact .inl ⟨e1, e2, by rw [e3]; exact e4, by rw [e3]; exact e6, by rw [e3]; exact e7⟩
    · exact .inr ⟨e1, e3⟩

/-! Rows that are told, read again -/
theorem joinW_mem : ∀ ws : List Bs, ∀ b ∈ joinW ws, b = 32 ∨ ∃ w ∈ ws, b ∈ w
  | [], b, h => by cases h
  | [w], b, h => by rw [joinW_one] at h; exact .inr ⟨w, List.mem_singleton.2 rfl, h⟩
  | w :: v :: ws, b, h => by
    rw [joinW_cons] at h
    rcases List.mem_append.1 h with h | h
    · exact .inr ⟨w, List.mem_cons_self, h⟩
    · rcases List.mem_cons.1 h with h | h
      · exact .inl h
      · rcases joinW_mem (v :: ws) b h with h | ⟨x, hx, hb⟩
        · exact .inl h
        · exact .inr ⟨x, List.mem_cons_of_mem _ hx, hb⟩
theorem split_joinW : ∀ ws : List Bs, ws ≠ [] → (∀ w ∈ ws, GoodW w) → splitC 32 (joinW ws) = ws
  | [], h, _ => absurd rfl h
  | [w], _, hg => by rw [joinW_one, splitC_none 32 w (fun b hb => ((hg w List.mem_cons_self).2.2 b hb).1)]
  | w :: v :: ws, _, hg => by
    rw [joinW_cons, splitC_word 32 w _ (fun b hb => ((hg w List.mem_cons_self).2.2 b hb).1), split_joinW (v :: ws) (by simp) (fun x hx => hg x (List.mem_cons_of_mem _ hx))]
theorem keep_good : ∀ ws : List Bs, (∀ w ∈ ws, GoodW w) → keep ws = ws
  | [], _ => rfl
  | w :: ws, hg => by
    have h := hg w List.mem_cons_self
    rw [keep_word h.2.1 h.1, keep_good ws (fun x hx => hg x (List.mem_cons_of_mem _ hx))]
theorem words_joinW {r : Row} (h : Good r) : wordsOf (joinW r.ws) = r.ws := by
  rw [wordsOf_keep, split_joinW r.ws h.1 h.2.2, keep_good r.ws h.2.2]
theorem odd_joinW {r : Row} (h : Good r) : ∀ b ∈ joinW r.ws, isOdd b = false := by
  intro b hb
  rcases joinW_mem r.ws b hb with rfl | ⟨w, hw, hbw⟩
  · rfl
  · exact ((h.2.2 w hw).2.2 b hbw).2
def num : Nat → List Row → List Row
  | _, [] => []
  | i, r :: rs => ⟨(i : Int) + 1, r.ws⟩ :: num (i + 1) rs
theorem num_length : ∀ i rs, (num i rs).length = rs.length
  | _, [] => rfl
  | i, r :: rs => by rw [num, List.length_cons, List.length_cons, num_length]
theorem num_get : ∀ (rs : List Row) (i j : Nat) (h : j < rs.length), (num i rs)[j]'(by rw [num_length]; exact h) = ⟨((i + j : Nat) : Int) + 1, rs[j].ws⟩
  | [], i, j, h => absurd h (by simp)
  | r :: rs, i, 0, h => rfl
  | r :: rs, i, j + 1, h => by
    have ih := num_get rs (i + 1) j (by simpa using h)
    simp only [num, List.getElem_cons_succ, ih]
    congr 2
    omega
theorem showW_num : ∀ i rs, showW (num i rs) = showW rs
  | _, [] => rfl
  | i, r :: rs => by rw [num, showW_cons, showW_cons, showW_num]
theorem split_showW : ∀ rs : List Row, (∀ r ∈ rs, Good r) → splitC 10 (showW rs) = rs.map (fun r => joinW r.ws) ++ [[]]
  | [], _ => rfl
  | r :: rs, h => by
    have hr := h r List.mem_cons_self
    rw [showW_cons, List.append_assoc]
    show splitC 10 (joinW r.ws ++ 10 :: showW rs) = _
    rw [splitC_word 10 (joinW r.ws) _ (fun b hb e => by have := odd_joinW hr b hb; rw [e] at this; cases this), split_showW rs (fun x hx => h x (List.mem_cons_of_mem _ hx))]
    rfl
theorem parseGo_show : ∀ (rs : List Row) (i : Nat) (out : List Row), (∀ r ∈ rs, Good r) → out.length + rs.length ≤ 2000 → parseGo (rs.map (fun r => joinW r.ws) ++ [[]]) i out = (out ++ num i rs, 0, 0)
  | [], i, out, _, _ => by
    show parseGo [[]] i out = _
    rw [parseGo_gap, num, List.append_nil]
  | r :: rs, i, out, h, hl => by
    have hr := h r List.mem_cons_self
    have ho : ¬ (joinW r.ws).any isOdd = true := by
      rw [Bool.not_eq_true, List.any_eq_false]
      intro b hb
      rw [odd_joinW hr b hb]
      decide
    rw [List.map_cons, List.cons_append, parseGo, words_joinW hr, if_neg (fun e => e.elim ho (fun e => by have := hr.2.1; omega)), if_neg (fun e => hr.1 (List.length_eq_zero_iff.1 e)), if_neg (by simp at hl; omega), parseGo_show rs (i + 1) _ (fun x hx => h x (List.mem_cons_of_mem _ hx)) (by simp at hl ⊢; omega), num, List.append_assoc]
    rfl
theorem parse_show (rs : List Row) (h : ∀ r ∈ rs, Good r) (hl : rs.length ≤ 2000) (hs : (showW rs).length ≤ 65536) : parseB (showW rs) = (num 0 rs, 0, 0) := by
  unfold parseB
  rw [if_neg (by omega), split_showW rs h, parseGo_show rs 0 [] h (by simpa using hl)]
  rfl

/-! A text behind a text -/
def shift (s : Int) (r : Row) : Row := ⟨r.line + s, r.ws⟩
theorem parseGo_append : ∀ (la lb : List Bs) (i : Nat) (out : List Row), ((parseGo la i out).2.2 = 0 → parseGo (la ++ lb) i out = parseGo lb (i + la.length) (parseGo la i out).1) ∧ ((parseGo la i out).2.2 ≠ 0 → parseGo (la ++ lb) i out = parseGo la i out)
  | [], lb, i, out => ⟨fun _ => rfl, fun h => absurd rfl h⟩
  | l :: la, lb, i, out => by
    rw [List.cons_append, parseGo, parseGo]
    split
    · exact ⟨fun h => absurd h (show (2 : Int) ≠ 0 by decide), fun _ => rfl⟩
    · split
      · obtain ⟨h1, h2⟩ := parseGo_append la lb (i + 1) out
        exact ⟨fun h => by rw [h1 h]; congr 1; simp; omega, h2⟩
      · split
        · exact ⟨fun h => absurd h (show (11 : Int) ≠ 0 by decide), fun _ => rfl⟩
        · obtain ⟨h1, h2⟩ := parseGo_append la lb (i + 1) (out ++ [⟨(i : Int) + 1, wordsOf l⟩])
          exact ⟨fun h => by rw [h1 h]; congr 1; simp; omega, h2⟩
theorem parseGo_shift (s : Nat) (o : List Row) : ∀ (ls : List Bs) (j : Nat) (out : List Row), o.length + out.length + ls.length ≤ 2000 →
    ((parseGo ls j out).2.2 = 0 → parseGo ls (s + j) (o ++ out.map (shift s)) = (o ++ (parseGo ls j out).1.map (shift s), 0, 0)) ∧ ((parseGo ls j out).2.2 ≠ 0 → (parseGo ls (s + j) (o ++ out.map (shift s))).2.2 ≠ 0 ∧ 1 ≤ (parseGo ls (s + j) (o ++ out.map (shift s))).2.1)
  | [], j, out, h => ⟨fun _ => rfl, fun e => absurd rfl e⟩
  | l :: ls, j, out, h => by
    simp only [List.length_cons] at h
    rw [parseGo, parseGo]
    split
    · exact ⟨fun h => absurd h (show (2 : Int) ≠ 0 by decide), fun _ => ⟨show (2 : Int) ≠ 0 by decide, by show (1 : Int) ≤ ((s + j : Nat) : Int) + 1; omega⟩⟩
    · split
      · exact parseGo_shift s o ls (j + 1) out (by omega)
      · rw [if_neg (by omega), if_neg (by simp; omega)]
        have ih := parseGo_shift s o ls (j + 1) (out ++ [⟨(j : Int) + 1, wordsOf l⟩]) (by simp; omega)
        have e : o ++ (out ++ [(⟨(j : Int) + 1, wordsOf l⟩ : Row)]).map (shift s) = o ++ out.map (shift s) ++ [⟨((s + j : Nat) : Int) + 1, wordsOf l⟩] := by
          rw [List.map_append, List.append_assoc]
          congr 2
          show [shift s ⟨(j : Int) + 1, wordsOf l⟩] = _
          unfold shift
          congr 2
          show (j : Int) + 1 + (s : Int) = ((s + j : Nat) : Int) + 1
          omega
        rw [e] at ih
        exact ih
theorem parse_apart (a b : Bs) (ha : a.length ≤ 800) (hb : b.length ≤ 800) :
    (((parseB a).2.2 ≠ 0 ∨ (parseB b).2.2 ≠ 0) → (parseB (a ++ 10 :: b)).2.2 ≠ 0 ∧ 1 ≤ (parseB (a ++ 10 :: b)).2.1)
    ∧ ((parseB a).2.2 = 0 → (parseB b).2.2 = 0 → parseB (a ++ 10 :: b) = ((parseB a).1 ++ (parseB b).1.map (shift ((splitC 10 a).length : Nat)), 0, 0)) := by
  unfold parseB
  rw [if_neg (by omega), if_neg (by omega), if_neg (by simp; omega), splitC_append]
  obtain ⟨h1, h2⟩ := parseGo_append (splitC 10 a) (splitC 10 b) 0 []
  have la := splitC_len 10 a
  have lb := splitC_len 10 b
  have sp := parseGo_spec (splitC 10 a) 0 [] (by decide)
  rw [Nat.zero_add] at h1
  have key : ∀ o : List Row, o.length ≤ (splitC 10 a).length → _ := fun o ho => parseGo_shift (splitC 10 a).length o (splitC 10 b) 0 [] (by simp; omega)
  by_cases ea : (parseGo (splitC 10 a) 0 []).2.2 = 0
  · rcases sp with ⟨_, _, R, e3, _, e5, _⟩ | ⟨e, _⟩
    · rw [h1 ea]
      rw [List.nil_append] at e3
      have k := key (parseGo (splitC 10 a) 0 []).1 (by rw [e3]; exact e5)
      rw [List.map_nil, List.append_nil, Nat.add_zero] at k
      exact ⟨fun h => k.2 (h.elim (fun e => absurd ea e) id), fun _ eb => k.1 eb⟩
    · exact absurd ea e
  · rw [h2 ea]
    refine ⟨fun _ => ⟨ea, ?_⟩, fun e => absurd e ea⟩
    rcases sp with ⟨e, _⟩ | ⟨_, e, _⟩
    · exact absurd e ea
    · exact e
theorem Good.lt {r : Row} (h : Good r) : r.ws.length < 1000000000 := by have := h.2.1; omega
end Go.Proofs.YthefdpioaapomaaDoor.Pu7
