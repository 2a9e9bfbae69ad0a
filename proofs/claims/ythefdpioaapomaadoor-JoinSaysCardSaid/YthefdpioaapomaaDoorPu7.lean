/- What the walked texts of layer 7 come to: rows.Parse and the document's own Rows are one plain reading. No memory in sight. -/
import Derived.Test.YthefdpioaapomaaDoorPl
import Derived.Test.YthefdpioaapomaaDoorExtA
import Derived.Laws.RangeString
import Derived.Laws.RangeAny
import Derived.Test.YthefdpioaapomaaDoorPA1
import Derived.Test.YthefdpioaapomaaDoorPA2
import Derived.Test.YthefdpioaapomaaDoorPA7
import Derived.Test.YthefdpioaapomaaDoorPA8
namespace Go.Proofs.YthefdpioaapomaaDoor.Pu7
set_option linter.unusedVariables false
set_option linter.unusedSimpArgs false
open Go.RowKit Go.Proofs.YthefdpioaapomaaDoorW.PrintWords Go.Proofs.YthefdpioaapomaaDoorW.PrintLast Go.Proofs.YthefdpioaapomaaDoor.Ext Go.Proofs.YthefdpioaapomaaDoorW.PrintMore Go.Proofs.YthefdpioaapomaaDoor.PA Go.Proofs.YthefdpioaapomaaDoor.Pl

theorem wrap_nat {i : Nat} (h : i < 4611686018427387904) : wrap64 ((i : Int) + 1) = ((i + 1 : Nat) : Int) := by unfold wrap64; omega
theorem rd_map (xs : List Bs) {i : Nat} (h : i < xs.length) : rdOf ByteArray.empty (xs.map ofL) (i : Int) = ofL xs[i] := by simp [rdOf, h]
theorem rd_at (xs : List ByteArray) {i : Nat} (h : i < xs.length) : rdOf ByteArray.empty xs (i : Int) = xs[i] := by simp [rdOf, h]
theorem bt_ofL (l : Bs) {i : Nat} (h : i < l.length) : bt (ofL l) (i : Int) = (l[i].toNat : Int) := by
  have hs : i < (ofL l).size := by rw [ofL_size]; exact h
  unfold bt
  rw [dif_pos (by simpa using hs)]
  rfl
theorem ofL_nil_iff (l : Bs) : ((ofL l).toList = ([] : List UInt8)) ↔ l = [] := by rw [ofL_toList]

theorem split_f (l : Bs) (c : UInt8) (h : l.length < 4294967281) : strings_Split.f (ofL l) (⟨#[c]⟩ : ByteArray) = some ((splitC c l).map ofL) := by
  unfold strings_Split.f
  rw [if_pos (by rw [ofL_size]; exact h), if_pos (by show 1 ≤ 1; decide), splitB_one, ofL_data]
theorem prefix_f (w : Bs) : strings_HasPrefix.f (ofL w) (⟨#[35]⟩ : ByteArray) = some (isSign w) := by
  unfold strings_HasPrefix.f Lib.hasPrefix isSign
  rw [ofL_data]
  cases w with
  | nil => rfl
  | cons b l =>
    congr 1
    show ([35] : List UInt8).isPrefixOf (b :: l) = (some b == some 35)
    rw [show (some b == some (35 : UInt8)) = (b == 35) from rfl]
    simp [List.isPrefixOf]
    exact Bool.eq_iff_iff.2 ⟨fun h => by simpa using (beq_iff_eq.1 h).symm, fun h => by simpa using (beq_iff_eq.1 h).symm⟩

/-! rows.odd over a text's runes is isOdd over its bytes -/
theorem isOdd_nat (b : UInt8) : isOdd b = oddP b.toNat := by
  unfold isOdd oddP
  rw [Bool.eq_iff_iff]
  simp only [Bool.or_eq_true, decide_eq_true_eq]
  exact Iff.rfl
theorem idxFrom (l : Bs) : ∀ (f pos : Nat), l.length ≤ pos + f → decide (0 ≤ Lib.idxFuncFrom oddP true (ofL l) f pos) = (l.drop pos).any isOdd
  | 0, pos, h => by
    rw [List.drop_of_length_le (by omega)]
    rfl
  | f + 1, pos, h => by
    by_cases hp : pos < l.length
    · have hs : pos < (ofL l).size := by rw [ofL_size]; exact hp
      have hb : (ofL l)[pos]'hs = l[pos] := rfl
      rw [List.drop_eq_getElem_cons hp, List.any_cons]
      by_cases ha : l[pos].toNat < 128
      · have hd := Go.decode_ascii (ofL l) pos hs (by rw [hb]; exact ha)
        rw [hb] at hd
        rw [Lib.idxFuncFrom, if_pos hs, hd]
        cases ho : isOdd l[pos] with
        | true => rw [isOdd_nat] at ho; rw [if_pos ho]; simp
        | false => rw [isOdd_nat] at ho; rw [if_neg (by rw [ho]; decide), Bool.false_or]; exact idxFrom l f (pos + 1) (by omega)
      · have hd := Go.decode_high (ofL l) pos hs (by rw [hb]; omega)
        have ho : isOdd l[pos] = true := by rw [isOdd_nat]; unfold oddP; simp; omega
        have h2 : oddP (Utf8.decode (ofL l) pos).1 = true := by unfold oddP; simp; omega
        rw [Lib.idxFuncFrom, if_pos hs, if_pos h2, decide_eq_true (by omega)]
        exact (Bool.or_eq_true_iff.2 (.inl ho)).symm
    · rw [List.drop_of_length_le (by omega), Lib.idxFuncFrom_end _ _ _ _ _ (by rw [ofL_size]; exact hp)]
      rfl
theorem odd_f (l : Bs) : strings_ContainsFunc.f (ofL l) = some (l.any isOdd) := by
  unfold strings_ContainsFunc.f Lib.idxFunc
  rw [idxFrom l _ 0 (by rw [ofL_size]; omega)]
  rfl

/-! rows.words -/
def keep (xs : List Bs) : List Bs := (xs.takeWhile (fun w => !isSign w)).filter (fun w => !w.isEmpty)
theorem keep_nil : keep [] = [] := rfl
theorem keep_sign {w : Bs} (h : isSign w = true) (xs : List Bs) : keep (w :: xs) = [] := by simp [keep, h]
theorem keep_empty (xs : List Bs) : keep ([] :: xs) = keep xs := by simp [keep, isSign]
theorem keep_word {w : Bs} (h : isSign w = false) (hw : w ≠ []) (xs : List Bs) : keep (w :: xs) = w :: keep xs := by simp [keep, h, hw]
theorem words_loop (xs : List Bs) (hx : xs.length < 1000000000000) : ∀ (d i : Nat) (out : List ByteArray), i + d = xs.length → out.length ≤ i →
    Ev (fun k => rows_words.l0 k out (xs.map ofL) (xs.length : Int) (i : Int)) (out ++ (keep (xs.drop i)).map ofL)
  | 0, i, out, hd, ho => by
    rw [List.drop_of_length_le (by omega)]
    apply Ev.step (f := fun _ => some (out ++ (keep []).map ofL))
    · intro k
      simp only [rows_words.l0]
      rw [if_neg (by omega)]
      simp [keep]
    · exact Ev.now _
  | d + 1, i, out, hd, ho => by
    have hi : i < xs.length := by omega
    have hr := rd_map xs hi
    have hm : (xs.map ofL).length = xs.length := List.length_map ..
    rw [List.drop_eq_getElem_cons hi]
    cases hs : isSign xs[i] with
    | true =>
      rw [keep_sign hs]
      apply Ev.step (f := fun _ => some (out ++ ([] : List Bs).map ofL))
      · intro k
        simp only [rows_words.l0]
        rw [if_pos (by omega), if_pos (by omega), if_pos (by rw [hm]; omega), hr, prefix_f, hs]
        simp
      · exact Ev.now _
    | false =>
      by_cases he : xs[i] = []
      · rw [he, keep_empty]
        apply Ev.step (f := fun k => rows_words.l0 k out (xs.map ofL) (xs.length : Int) ((i + 1 : Nat) : Int))
        · intro k
          simp only [rows_words.l0]
          rw [if_pos (by omega), if_pos (by omega), if_pos (by rw [hm]; omega), hr, prefix_f, hs, wrap_nat (by omega)]
          simp only [Option.bind_some]
          rw [if_neg (by decide), if_pos ((ofL_nil_iff _).2 he)]
        · exact words_loop xs hx d (i + 1) out (by omega) (by omega)
      · rw [keep_word hs he]
        apply Ev.step (f := fun k => rows_words.l0 k (out ++ [ofL xs[i]]) (xs.map ofL) (xs.length : Int) ((i + 1 : Nat) : Int))
        · intro k
          simp only [rows_words.l0]
          rw [if_pos (by omega), if_pos (by omega), if_pos (by rw [hm]; omega), hr, prefix_f, hs, wrap_nat (by omega)]
          simp only [Option.bind_some]
          rw [if_neg (by decide), if_neg (fun h => he ((ofL_nil_iff _).1 h)), if_pos (by omega)]
        · have ih := words_loop xs hx d (i + 1) (out ++ [ofL xs[i]]) (by omega) (by simp; omega)
          rw [List.append_assoc] at ih
          exact ih
theorem words_ev (l : Bs) (h : l.length < 4294967281) : Ev (fun k => rows_words.f k (ofL l)) ((wordsOf l).map ofL) := by
  have hl := splitC_len 32 l
  have hw := words_loop (splitC 32 l) (by omega) (splitC 32 l).length 0 [] (by omega) (by simp)
  refine Ev.congr (fun k => ?_) hw
  unfold rows_words.f
  rw [split_f l 32 h, Option.bind_some, List.length_map]
  rfl
theorem wordsOf_keep (l : Bs) : wordsOf l = keep (splitC 32 l) := rfl

/-! rows.Parse -/
def t31 (r : Row) : S31 := ⟨r.line, r.ws.map ofL⟩
def t36 (r : Row) : S36 := ⟨r.line, r.ws.map ofL⟩
def r31 (x : List Row × Int × Int) : List S31 × Int × Int := (x.1.map t31, x.2)
def r36 (x : List Row × Int × Int) : List S36 × Int × Int := (x.1.map t36, x.2)
theorem parse_loop (ls : List Bs) (hx : ls.length < 1000000000000) (hw : ∀ l ∈ ls, l.length < 4294967281) : ∀ (d i : Nat) (out : List Row), i + d = ls.length → out.length ≤ i →
    Ev (fun k => rows_Parse.l0 k (out.map t31) (ls.map ofL) (ls.length : Int) (i : Int)) (r31 (parseGo (ls.drop i) i out))
  | 0, i, out, hd, ho => by
    rw [List.drop_of_length_le (by omega)]
    apply Ev.step (f := fun _ => some (r31 (parseGo [] i out)))
    · intro k
      simp only [rows_Parse.l0]
      rw [if_neg (by omega)]
      rfl
    · exact Ev.now _
  | d + 1, i, out, hd, ho => by
    have hi : i < ls.length := by omega
    have hr := rd_map ls hi
    have hm : (ls.map ofL).length = ls.length := List.length_map ..
    have hwl := hw ls[i] (List.getElem_mem hi)
    rw [List.drop_eq_getElem_cons hi]
    generalize hli : ls[i] = l at hr hwl
    have hwd := words_ev l hwl
    apply Ev.step (f := fun k => (rows_words.f k (ofL l)).bind fun t113 => ((strings_ContainsFunc.f (ofL l)).bind fun t116 => (if t116 = true then (rows_Parse.j1 k (out.map t31) (i : Int) t113 (ls.map ofL) (ls.length : Int) (i : Int) t116) else (rows_Parse.j1 k (out.map t31) (i : Int) t113 (ls.map ofL) (ls.length : Int) (i : Int) (decide ((t113.length : Int) > 24))))))
    · intro k
      simp only [rows_Parse.l0]
      rw [if_pos (by omega), if_pos (by omega), if_pos (by rw [hm]; omega), hr]
    · refine Ev.bind hwd ?_
      rw [odd_f]
      simp only [Option.bind_some, List.length_map]
      by_cases hbad : l.any isOdd = true ∨ 24 < (wordsOf l).length
      · have e : (fun n => if l.any isOdd = true then rows_Parse.j1 n (out.map t31) (i : Int) ((wordsOf l).map ofL) (ls.map ofL) (ls.length : Int) (i : Int) (l.any isOdd) else rows_Parse.j1 n (out.map t31) (i : Int) ((wordsOf l).map ofL) (ls.map ofL) (ls.length : Int) (i : Int) (decide (((wordsOf l).length : Int) > 24))) = fun n => rows_Parse.j1 n (out.map t31) (i : Int) ((wordsOf l).map ofL) (ls.map ofL) (ls.length : Int) (i : Int) true := by
          funext n
          split
          · rename_i h; rw [h]
          · rename_i h
            rw [decide_eq_true (by rcases hbad with hb | hb; exact absurd hb h; omega)]
        rw [e]
        apply Ev.step (f := fun _ => some (([] : List S31), ((i + 1 : Nat) : Int), 2))
        · intro k
          simp only [rows_Parse.j1]
          rw [if_pos trivial, wrap_nat (by omega)]
        · rw [parseGo, if_pos hbad]
          exact Ev.now _
      · have hb1 : ¬ l.any isOdd = true := fun h => hbad (.inl h)
        have hb2 : ¬ 24 < (wordsOf l).length := fun h => hbad (.inr h)
        simp only [if_neg hb1]
        rw [decide_eq_false (by omega), parseGo, if_neg hbad]
        by_cases h0 : (wordsOf l).length = 0
        · rw [if_pos h0]
          apply Ev.step (f := fun k => rows_Parse.l0 k (out.map t31) (ls.map ofL) (ls.length : Int) ((i + 1 : Nat) : Int))
          · intro k
            simp only [rows_Parse.j1]
            rw [if_neg (by decide), if_pos (by rw [List.length_map, h0]; rfl), wrap_nat (by omega)]
          · exact parse_loop ls hx hw d (i + 1) out (by omega) (by omega)
        · rw [if_neg h0]
          by_cases h2 : out.length = 2000
          · rw [if_pos h2]
            apply Ev.step (f := fun _ => some (([] : List S31), ((i + 1 : Nat) : Int), 11))
            · intro k
              simp only [rows_Parse.j1]
              rw [if_neg (by decide), if_neg (by rw [List.length_map]; omega), if_pos (by rw [List.length_map, h2]; rfl), wrap_nat (by omega)]
            · exact Ev.now _
          · rw [if_neg h2]
            apply Ev.step (f := fun k => rows_Parse.l0 k ((out ++ [(⟨(i : Int) + 1, wordsOf l⟩ : Row)]).map t31) (ls.map ofL) (ls.length : Int) ((i + 1 : Nat) : Int))
            · intro k
              simp only [rows_Parse.j1]
              rw [if_neg (by decide), if_neg (by rw [List.length_map]; omega), if_neg (by rw [List.length_map]; omega), if_pos (by rw [List.length_map]; omega), wrap_nat (by omega), List.map_append]
              rfl
            · exact parse_loop ls hx hw d (i + 1) _ (by omega) (by simp; omega)
theorem parse_ev (t : Bs) : Ev (fun k => rows_Parse.f k (ofL t)) (r31 (parseB t)) := by
  unfold parseB
  by_cases h : 65536 < t.length
  · rw [if_pos h]
    refine Ev.congr (fun k => ?_) (Ev.now _)
    unfold rows_Parse.f
    rw [if_pos (by rw [ofL_size]; omega)]
    rfl
  · rw [if_neg h]
    have hl := splitC_len 10 t
    have hp := parse_loop (splitC 10 t) (by omega) (fun l hm => by have := splitC_word_len 10 t l hm; omega) (splitC 10 t).length 0 [] (by omega) (by simp)
    refine Ev.congr (fun k => ?_) hp
    unfold rows_Parse.f
    rw [if_neg (by rw [ofL_size]; omega), split_f t 10 (by omega), Option.bind_some, List.length_map]
    rfl

/-! texts, alike -/
theorem texts_loop (l : List ByteArray) (hl : l.length < 1000000000000) : ∀ (d i : Nat), i + d = l.length → Ev (fun k => cubitlaw7_texts.l0 k l l (i : Int)) true
  | 0, i, hd => by
    apply Ev.step (f := fun _ => some true)
    · intro k
      simp only [cubitlaw7_texts.l0]
      rw [if_neg (by omega)]
    · exact Ev.now _
  | d + 1, i, hd => by
    apply Ev.step (f := fun k => cubitlaw7_texts.l0 k l l ((i + 1 : Nat) : Int))
    · intro k
      simp only [cubitlaw7_texts.l0]
      rw [if_pos (by omega), if_pos (by omega), if_pos (by omega), if_pos trivial, wrap_nat (by omega)]
    · exact texts_loop l hl d (i + 1) (by omega)
theorem texts_ev (l : List ByteArray) (hl : l.length < 1000000000000) : Ev (fun k => cubitlaw7_texts.f k l l) true := by
  refine Ev.congr (fun k => ?_) (texts_loop l hl l.length 0 (by omega))
  unfold cubitlaw7_texts.f
  rw [if_pos rfl]
  rfl
theorem rd31 (rs : List Row) {i : Nat} (h : i < rs.length) : rd_T31 (rs.map t31) (i : Int) = t31 rs[i] := by simp [rd_T31, h]
theorem rd36 (rs : List Row) {i : Nat} (h : i < rs.length) : rd_T36 (rs.map t36) (i : Int) = t36 rs[i] := by simp [rd_T36, h]
theorem alike_loop (rs : List Row) (hl : rs.length < 1000000000000) (hw : ∀ r ∈ rs, r.ws.length < 1000000000000) : ∀ (d i : Nat), i + d = rs.length → Ev (fun k => cubitlaw7_alike.l0 k (rs.map t31) (rs.map t36) (i : Int)) true
  | 0, i, hd => by
    apply Ev.step (f := fun _ => some true)
    · intro k
      simp only [cubitlaw7_alike.l0]
      rw [if_neg (by rw [List.length_map]; omega)]
    · exact Ev.now _
  | d + 1, i, hd => by
    have hi : i < rs.length := by omega
    have hwi := hw rs[i] (List.getElem_mem hi)
    apply Ev.step (f := fun k => (cubitlaw7_texts.f k (rs[i].ws.map ofL) (rs[i].ws.map ofL)).bind fun t126 => (cubitlaw7_alike.j1 k (rs.map t31) (rs.map t36) (i : Int) (!t126)))
    · intro k
      simp only [cubitlaw7_alike.l0]
      rw [if_pos (by rw [List.length_map]; omega), if_pos (by omega), if_pos (by rw [List.length_map]; omega), rd31 rs hi, rd36 rs hi, if_pos (show (t31 rs[i]).f0 = (t36 rs[i]).f0 from rfl)]
      rfl
    · refine Ev.bind (texts_ev _ (by rw [List.length_map]; exact hwi)) ?_
      apply Ev.step (f := fun k => cubitlaw7_alike.l0 k (rs.map t31) (rs.map t36) ((i + 1 : Nat) : Int))
      · intro k
        simp only [cubitlaw7_alike.j1]
        rw [if_neg (by decide), wrap_nat (by omega)]
      · exact alike_loop rs hl hw d (i + 1) (by omega)
theorem alike_ev (rs : List Row) (hl : rs.length < 1000000000000) (hw : ∀ r ∈ rs, r.ws.length < 1000000000000) : Ev (fun k => cubitlaw7_alike.f k (rs.map t31) (rs.map t36)) true := by
  refine Ev.congr (fun k => ?_) (alike_loop rs hl hw rs.length 0 (by omega))
  unfold cubitlaw7_alike.f
  rw [if_pos (by simp)]
  rfl

/-! The document's own words of a line -/
theorem ref_chk (l : Bs) (hl : l.length < 1000000000000) : ∀ (d i : Nat), i + d = l.length → (∀ r, (l.drop i).any isOdd = false → Ev (fun k => cubitref6_rowWords.l1 k (ofL l) ([] : List ByteArray) ⟨#[]⟩ 0) r → Ev (fun k => cubitref6_rowWords.l0 k (ofL l) ⟨#[]⟩ (i : Int)) r) ∧ ((l.drop i).any isOdd = true → Ev (fun k => cubitref6_rowWords.l0 k (ofL l) ⟨#[]⟩ (i : Int)) ([], false))
  | 0, i, hd => by
    rw [List.drop_of_length_le (by omega)]
    refine ⟨fun r _ h => ?_, fun h => by simp at h⟩
    apply Ev.step (f := fun k => cubitref6_rowWords.l1 k (ofL l) ([] : List ByteArray) ⟨#[]⟩ 0)
    · intro k
      simp only [cubitref6_rowWords.l0]
      rw [if_neg (by rw [ofL_size]; omega)]
    · exact h
  | d + 1, i, hd => by
    have hi : i < l.length := by omega
    have hb := bt_ofL l hi
    obtain ⟨ih1, ih2⟩ := ref_chk l hl d (i + 1) (by omega)
    rw [List.drop_eq_getElem_cons hi, List.any_cons]
    have hodd : (isOdd l[i] = true) ↔ (l[i].toNat < 32 ∨ 126 < l[i].toNat) := by
      rw [isOdd_nat]; unfold oddP; simp
    have step : ∀ r, Ev (fun k => cubitref6_rowWords.j1 k (ofL l) ⟨#[]⟩ (i : Int) (isOdd l[i])) r → Ev (fun k => cubitref6_rowWords.l0 k (ofL l) ⟨#[]⟩ (i : Int)) r := by
      intro r h
      refine Ev.step (fun k => ?_) h
      simp only [cubitref6_rowWords.l0]
      rw [if_pos (by rw [ofL_size]; omega), if_pos (by omega), hb]
      by_cases h1 : l[i].toNat < 32
      · rw [if_pos (by omega), hodd.2 (.inl h1)]
      · rw [if_neg (by omega)]
        congr 1
        rw [Bool.eq_iff_iff, hodd, decide_eq_true_eq]
        omega
    cases ho : isOdd l[i] with
    | true =>
      rw [ho] at step
      refine ⟨fun r h => by simp at h, fun _ => step _ ?_⟩
      refine Ev.step (f := fun _ => some ([], false)) (fun k => ?_) (Ev.now _)
      simp only [cubitref6_rowWords.j1]
      rw [if_pos trivial]
    | false =>
      rw [ho] at step
      have go : ∀ r, Ev (fun k => cubitref6_rowWords.l0 k (ofL l) ⟨#[]⟩ ((i + 1 : Nat) : Int)) r → Ev (fun k => cubitref6_rowWords.l0 k (ofL l) ⟨#[]⟩ (i : Int)) r := by
        intro r h
        refine step r (Ev.step (fun k => ?_) h)
        simp only [cubitref6_rowWords.j1]
        rw [if_neg (by decide), wrap_nat (by omega)]
      rw [Bool.false_or]
      exact ⟨fun r h k => go r (ih1 r h k), fun h => go _ (ih2 h)⟩
theorem beq_empty (w : Bs) : ((ofL w).toList == ([] : List UInt8)) = w.isEmpty := by
  rw [ofL_toList]; cases w <;> rfl
theorem isSign_nil : isSign [] = false := rfl
theorem isSign_cons (b : UInt8) (w : Bs) : isSign (b :: w) = (b == 35) := rfl
theorem isSign_app {w : Bs} (h : w ≠ []) (x : Bs) : isSign (w ++ x) = isSign w := by
  cases w with
  | nil => exact absurd rfl h
  | cons b w => rfl
theorem cut_one (l : Bs) {i : Nat} (h : i < l.length) : (ofL l).extract i (i + 1) = ofL [l[i]] := by
  apply ByteArray.ext
  apply Array.ext'
  show ((ofL l).extract i (i + 1)).data.toList = [l[i]]
  rw [← Lib.toList_data, Lib.extract_toList, ofL_data, List.drop_eq_getElem_cons h, Nat.add_sub_cancel_left]
  rfl
theorem ofL_append (a b : Bs) : ofL a ++ ofL b = ofL (a ++ b) := by
  apply ByteArray.ext
  rw [ByteArray.data_append]
  simp [ofL]
theorem keep_start {w : Bs} (hn : ∀ b ∈ w, b ≠ (32 : UInt8)) (hs : isSign w = true) (r : Bs) : keep (splitC 32 (w ++ r)) = [] := by
  cases w with
  | nil => cases hs
  | cons b w =>
    have hb : b ≠ 32 := hn b List.mem_cons_self
    obtain ⟨v, vs, hv⟩ := splitC_cons 32 (w ++ r)
    rw [List.cons_append, splitC_miss hb hv]
    exact keep_sign (by rw [isSign_cons] at hs ⊢; exact hs) _
theorem ref_words (l : Bs) (hl : l.length < 1000000000000) : ∀ (d i : Nat) (out : List ByteArray) (w : Bs), i + d = l.length + 1 → out.length ≤ i → w.length ≤ i → (∀ b ∈ w, b ≠ (32 : UInt8)) → isSign w = false → (d = 0 → w = []) →
    Ev (fun k => cubitref6_rowWords.l1 k (ofL l) out (ofL w) (i : Int)) (out ++ (keep (splitC 32 (w ++ l.drop i))).map ofL, true)
  | 0, i, out, w, hd, ho, hwl, hn, hs, hz => by
    obtain rfl := hz rfl
    rw [List.drop_of_length_le (by omega)]
    refine Ev.step (f := fun _ => some (out ++ (keep (splitC 32 ([] ++ []))).map ofL, true)) (fun k => ?_) (Ev.now _)
    simp only [cubitref6_rowWords.l1]
    rw [if_neg (by rw [ofL_size]; omega), show keep (splitC 32 ([] ++ [])) = [] from rfl]
    simp
  | d + 1, i, out, w, hd, ho, hwl, hn, hs, hz => by
    have endWord : ∀ rest : List Bs, keep (w :: rest) = (if w = [] then [] else [w]) ++ keep rest := by
      intro rest
      by_cases hw : w = []
      · subst hw; rw [keep_empty, if_pos rfl]; rfl
      · rw [keep_word hs hw, if_neg hw]; rfl
    have push : ∀ r, Ev (fun k => cubitref6_rowWords.l1 k (ofL l) (out ++ (if w = [] then [] else [w]).map ofL) (ofL []) ((i + 1 : Nat) : Int)) r → Ev (fun k => cubitref6_rowWords.j3 k (ofL l) out (ofL w) (i : Int) false) r := by
      intro r h
      refine Ev.step (fun k => ?_) h
      simp only [cubitref6_rowWords.j3]
      rw [if_neg (by decide), wrap_nat (by omega)]
      by_cases hw : w = []
      · rw [if_pos ((ofL_nil_iff w).2 hw), if_pos hw]; simp; rfl
      · rw [if_neg (fun e => hw ((ofL_nil_iff w).1 e)), if_neg hw, if_pos (by omega)]; rfl
    have hlen : (out ++ (if w = [] then [] else [w]).map ofL).length ≤ i + 1 := by split <;> simp <;> omega
    by_cases hi : i < l.length
    · have hb := bt_ofL l hi
      rw [List.drop_eq_getElem_cons hi]
      generalize hx : l[i] = b at hb
      have open1 : ∀ r, Ev (fun k => cubitref6_rowWords.j3 k (ofL l) out (ofL w) (i : Int) ((b.toNat : Int) != 32)) r → Ev (fun k => cubitref6_rowWords.l1 k (ofL l) out (ofL w) (i : Int)) r := by
        intro r h
        refine Ev.step (fun k => ?_) h
        simp only [cubitref6_rowWords.l1]
        rw [if_pos (by rw [ofL_size]; omega), if_pos (by rw [ofL_size]; omega), if_pos (by omega), hb]
      refine open1 _ ?_
      by_cases h32 : b = 32
      · subst h32
        rw [show (((32 : UInt8).toNat : Int) != 32) = false from rfl, splitC_word 32 w _ hn, endWord, List.map_append, ← List.append_assoc]
        exact push _ (ref_words l hl d (i + 1) _ [] (by omega) hlen (by simp) (by simp) rfl (fun _ => rfl))
      · have hne : (((b.toNat : Int)) != 32) = true := by
          rw [bne_iff_ne]; intro e
          exact h32 (UInt8.toNat_inj.1 (by show b.toNat = 32; omega))
        rw [hne]
        have open3 : ∀ r, Ev (fun k => cubitref6_rowWords.j4 k (ofL l) out (ofL w) (i : Int) (isSign (w ++ [b]))) r → Ev (fun k => cubitref6_rowWords.j3 k (ofL l) out (ofL w) (i : Int) true) r := by
          intro r h
          refine Ev.step (fun k => ?_) h
          simp only [cubitref6_rowWords.j3]
          rw [if_pos trivial, if_pos (by omega), if_pos (by rw [ofL_size]; omega), hb, beq_empty]
          by_cases h35 : b = 35
          · subst h35
            rw [if_pos (show (((35 : UInt8).toNat : Nat) : Int) = 35 from rfl)]
            cases w with
            | nil => rfl
            | cons x w => rw [isSign_app (by simp), hs]; rfl
          · rw [if_neg (fun e => h35 (UInt8.toNat_inj.1 (by show b.toNat = 35; omega)))]
            cases w with
            | nil =>
              have : isSign ([] ++ [b]) = false := by
                rw [List.nil_append, isSign_cons]; exact beq_eq_false_iff_ne.2 h35
              rw [this]
            | cons x w => rw [isSign_app (by simp), hs]
        refine open3 _ ?_
        cases hsg : isSign (w ++ [b]) with
        | true =>
          have hn2 : ∀ y ∈ w ++ [b], y ≠ (32 : UInt8) := by
            intro y hy
            rcases List.mem_append.1 hy with h | h
            · exact hn y h
            · rw [List.mem_singleton.1 h]; exact h32
          have hk := keep_start hn2 hsg (l.drop (i + 1))
          rw [List.append_assoc] at hk
          rw [show w ++ b :: l.drop (i + 1) = w ++ ([b] ++ l.drop (i + 1)) from rfl, hk]
          refine Ev.step (f := fun _ => some (out ++ ([] : List Bs).map ofL, true)) (fun k => ?_) (Ev.now _)
          simp only [cubitref6_rowWords.j4]
          rw [if_pos trivial]
          simp
        | false =>
          have hcut := cut_one l hi
          rw [hx] at hcut
          have hn2 : ∀ y ∈ w ++ [b], y ≠ (32 : UInt8) := by
            intro y hy
            rcases List.mem_append.1 hy with h | h
            · exact hn y h
            · rw [List.mem_singleton.1 h]; exact h32
          have ih := ref_words l hl d (i + 1) out (w ++ [b]) (by omega) (by omega) (by simp; omega) hn2 hsg (fun h => by omega)
          rw [List.append_assoc] at ih
          refine Ev.step (fun k => ?_) ih
          simp only [cubitref6_rowWords.j4]
          rw [if_neg (by decide), wrap_nat (by omega), if_pos (by omega), if_pos (by omega), if_pos (by rw [ofL_size]; omega), Int.toNat_natCast, Int.toNat_natCast, hcut, if_pos (by rw [ofL_size, ofL_size]; simp; omega), ofL_append]
    · have hz2 : d = 0 := by omega
      rw [List.drop_of_length_le (by omega), List.append_nil, splitC_none 32 w hn, endWord, List.map_append, ← List.append_assoc]
      have ih := ref_words l hl d (i + 1) (out ++ (if w = [] then [] else [w]).map ofL) [] (by omega) hlen (by simp) (by simp) rfl (fun _ => rfl)
      rw [List.drop_of_length_le (by omega)] at ih
      refine Ev.step (fun k => ?_) (push _ ih)
      simp only [cubitref6_rowWords.l1]
      rw [if_pos (by rw [ofL_size]; omega), if_neg (by rw [ofL_size]; omega)]
theorem refWords_ev (l : Bs) (hl : l.length < 1000000000000) : Ev (fun k => cubitref6_rowWords.f k (ofL l)) (if l.any isOdd = true then ([], false) else ((wordsOf l).map ofL, true)) := by
  obtain ⟨h1, h2⟩ := ref_chk l hl l.length 0 (by omega)
  split
  · rename_i h; exact h2 h
  · rename_i h
    refine h1 _ (by simpa using h) ?_
    exact ref_words l hl (l.length + 1) 0 [] [] (by omega) (by simp) (by simp) (by simp) rfl (fun _ => rfl)
end Go.Proofs.YthefdpioaapomaaDoor.Pu7
