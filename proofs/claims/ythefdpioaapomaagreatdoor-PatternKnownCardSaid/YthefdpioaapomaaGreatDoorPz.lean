/- Layer 22 in plain lists of bytes: rows.Parse, rows.Blank and the small readings. No memory in sight. -/
import Derived.Test.YthefdpioaapomaaGreatDoorPl
import Derived.Test.YthefdpioaapomaaGreatDoorExtA
import Derived.Laws.RangeString
import Derived.Laws.RangeAny
import Derived.Lib.ReplaceLaws
import Derived.Test.YthefdpioaapomaaGreatDoorPA1
namespace Go.Proofs.YthefdpioaapomaaGreatDoor.Pz
set_option linter.unusedVariables false
set_option linter.unusedSimpArgs false
open Go.RowKit Go.Proofs.YthefdpioaapomaaGreatDoorW.PrintWords Go.Proofs.YthefdpioaapomaaGreatDoorW.PrintLast Go.Proofs.YthefdpioaapomaaGreatDoor.Ext Go.Proofs.YthefdpioaapomaaGreatDoorW.PrintMore Go.Proofs.YthefdpioaapomaaGreatDoor.PA Go.Proofs.YthefdpioaapomaaGreatDoor.Pl

theorem wrap_nat {i : Nat} (h : i < 4611686018427387904) : wrap64 ((i : Int) + 1) = ((i + 1 : Nat) : Int) := by unfold wrap64; omega
theorem rd_map (xs : List Bs) {i : Nat} (h : i < xs.length) : rdOf ByteArray.empty (xs.map ofL) (i : Int) = ofL xs[i] := by simp [rdOf, h]
theorem rd_at (xs : List ByteArray) {i : Nat} (h : i < xs.length) : rdOf ByteArray.empty xs (i : Int) = xs[i] := by simp [rdOf, h]
theorem bt_ofL (l : Bs) {i : Nat} (h : i < l.length) : bt (ofL l) (i : Int) = (l[i].toNat : Int) := by
  have hs : i < (ofL l).size := by rw [ofL_size]; exact h
  unfold bt
  rw [dif_pos (by simpa using hs)]
  rfl
theorem ofL_nil_iff (l : Bs) : ((ofL l).toList = ([] : List UInt8)) ↔ l = [] := by rw [ofL_toList]

theorem split_f (l : Bs) (c : UInt8) (h : l.length < 4294967281) : strings_Split.f (ofL l) (⟨#[c]⟩ : ByteArray) = some ((splitC c l).map ofL) := by
  unfold strings_Split.f
  rw [if_pos (by rw [ofL_size]; exact h), if_pos (by show 1 ≤ 1; decide), splitB_one, ofL_data]
theorem prefix_f (w : Bs) : strings_HasPrefix.f (ofL w) (⟨#[35]⟩ : ByteArray) = some (isSign w) := by
  unfold strings_HasPrefix.f Lib.hasPrefix isSign
  rw [ofL_data]
  cases w with
  | nil => rfl
  | cons b l =>
    congr 1
    show ([35] : List UInt8).isPrefixOf (b :: l) = (some b == some 35)
    rw [show (some b == some (35 : UInt8)) = (b == 35) from rfl]
    simp [List.isPrefixOf]
    exact Bool.eq_iff_iff.2 ⟨fun h => by simpa using (beq_iff_eq.1 h).symm, fun h => by simpa using (beq_iff_eq.1 h).symm⟩

theorem isOdd_nat (b : UInt8) : isOdd b = oddP b.toNat := by
  unfold isOdd oddP
  rw [Bool.eq_iff_iff]
  simp only [Bool.or_eq_true, decide_eq_true_eq]
  exact Iff.rfl
theorem idxFrom (l : Bs) : ∀ (f pos : Nat), l.length ≤ pos + f → decide (0 ≤ Lib.idxFuncFrom oddP true (ofL l) f pos) = (l.drop pos).any isOdd
  | 0, pos, h => by
    rw [List.drop_of_length_le (by omega)]
    rfl
  | f + 1, pos, h => by
    by_cases hp : pos < l.length
    · have hs : pos < (ofL l).size := by rw [ofL_size]; exact hp
      have hb : (ofL l)[pos]'hs = l[pos] := rfl
      rw [List.drop_eq_getElem_cons hp, List.any_cons]
      by_cases ha : l[pos].toNat < 128
      · have hd := Go.decode_ascii (ofL l) pos hs (by rw [hb]; exact ha)
        rw [hb] at hd
        rw [Lib.idxFuncFrom, if_pos hs, hd]
        cases ho : isOdd l[pos] with
        | true => rw [isOdd_nat] at ho; rw [if_pos ho]; simp
        | false => rw [isOdd_nat] at ho; rw [if_neg (by rw [ho]; decide), Bool.false_or]; exact idxFrom l f (pos + 1) (by omega)
      · have hd := Go.decode_high (ofL l) pos hs (by rw [hb]; omega)
        have ho : isOdd l[pos] = true := by rw [isOdd_nat]; unfold oddP; simp; omega
        have h2 : oddP (Utf8.decode (ofL l) pos).1 = true := by unfold oddP; simp; omega
        rw [Lib.idxFuncFrom, if_pos hs, if_pos h2, decide_eq_true (by omega)]
        exact (Bool.or_eq_true_iff.2 (.inl ho)).symm
    · rw [List.drop_of_length_le (by omega), Lib.idxFuncFrom_end _ _ _ _ _ (by rw [ofL_size]; exact hp)]
      rfl
theorem odd_f (l : Bs) : strings_ContainsFunc.f (ofL l) = some (l.any isOdd) := by
  unfold strings_ContainsFunc.f Lib.idxFunc
  rw [idxFrom l _ 0 (by rw [ofL_size]; omega)]
  rfl

def keep (xs : List Bs) : List Bs := (xs.takeWhile (fun w => !isSign w)).filter (fun w => !w.isEmpty)
theorem keep_nil : keep [] = [] := rfl
theorem keep_sign {w : Bs} (h : isSign w = true) (xs : List Bs) : keep (w :: xs) = [] := by simp [keep, h]
theorem keep_empty (xs : List Bs) : keep ([] :: xs) = keep xs := by simp [keep, isSign]
theorem keep_word {w : Bs} (h : isSign w = false) (hw : w ≠ []) (xs : List Bs) : keep (w :: xs) = w :: keep xs := by simp [keep, h, hw]
theorem words_loop (xs : List Bs) (hx : xs.length < 1000000000000) : ∀ (d i : Nat) (out : List ByteArray), i + d = xs.length → out.length ≤ i →
    Ev (fun k => rows_words.l0 k out (xs.map ofL) (xs.length : Int) (i : Int)) (out ++ (keep (xs.drop i)).map ofL)
  | 0, i, out, hd, ho => by
    rw [List.drop_of_length_le (by omega)]
    apply Ev.step (f := fun _ => some (out ++ (keep []).map ofL))
    · intro k
      simp only [rows_words.l0]
      rw [if_neg (by omega)]
      simp [keep]
    · exact Ev.now _
  | d + 1, i, out, hd, ho => by
    have hi : i < xs.length := by omega
    have hr := rd_map xs hi
    have hm : (xs.map ofL).length = xs.length := List.length_map ..
    rw [List.drop_eq_getElem_cons hi]
    cases hs : isSign xs[i] with
    | true =>
      rw [keep_sign hs]
      apply Ev.step (f := fun _ => some (out ++ ([] : List Bs).map ofL))
      · intro k
        simp only [rows_words.l0]
        rw [if_pos (by omega), if_pos (by omega), if_pos (by rw [hm]; omega), hr, prefix_f, hs]
        simp
      · exact Ev.now _
    | false =>
      by_cases he : xs[i] = []
      · rw [he, keep_empty]
        apply Ev.step (f := fun k => rows_words.l0 k out (xs.map ofL) (xs.length : Int) ((i + 1 : Nat) : Int))
        · intro k
          simp only [rows_words.l0]
          rw [if_pos (by omega), if_pos (by omega), if_pos (by rw [hm]; omega), hr, prefix_f, hs, wrap_nat (by omega)]
          simp only [Option.bind_some]
          rw [if_neg (by decide), if_pos ((ofL_nil_iff _).2 he)]
        · exact words_loop xs hx d (i + 1) out (by omega) (by omega)
      · rw [keep_word hs he]
        apply Ev.step (f := fun k => rows_words.l0 k (out ++ [ofL xs[i]]) (xs.map ofL) (xs.length : Int) ((i + 1 : Nat) : Int))
        · intro k
          simp only [rows_words.l0]
          rw [if_pos (by omega), if_pos (by omega), if_pos (by rw [hm]; omega), hr, prefix_f, hs, wrap_nat (by omega)]
          simp only [Option.bind_some]
          rw [if_neg (by decide), if_neg (fun h => he ((ofL_nil_iff _).1 h)), if_pos (by omega)]
        · have ih := words_loop xs hx d (i + 1) (out ++ [ofL xs[i]]) (by omega) (by simp; omega)
          rw [List.append_assoc] at ih
          exact ih
theorem words_ev (l : Bs) (h : l.length < 4294967281) : Ev (fun k => rows_words.f k (ofL l)) ((wordsOf l).map ofL) := by
  have hl := splitC_len 32 l
  have hw := words_loop (splitC 32 l) (by omega) (splitC 32 l).length 0 [] (by omega) (by simp)
  refine Ev.congr (fun k => ?_) hw
  unfold rows_words.f
  rw [split_f l 32 h, Option.bind_some, List.length_map]
  rfl
theorem wordsOf_keep (l : Bs) : wordsOf l = keep (splitC 32 l) := rfl

def t31 (r : Row) : S41 := ⟨r.line, r.ws.map ofL⟩
def r31 (x : List Row × Int × Int) : List S41 × Int × Int := (x.1.map t31, x.2)
theorem parse_loop (ls : List Bs) (hx : ls.length < 1000000000000) (hw : ∀ l ∈ ls, l.length < 4294967281) : ∀ (d i : Nat) (out : List Row), i + d = ls.length → out.length ≤ i →
    Ev (fun k => rows_Parse.l0 k (out.map t31) (ls.map ofL) (ls.length : Int) (i : Int)) (r31 (parseGo (ls.drop i) i out))
  | 0, i, out, hd, ho => by
    rw [List.drop_of_length_le (by omega)]
    apply Ev.step (f := fun _ => some (r31 (parseGo [] i out)))
    · intro k
      simp only [rows_Parse.l0]
      rw [if_neg (by omega)]
      rfl
    · exact Ev.now _
  | d + 1, i, out, hd, ho => by
    have hi : i < ls.length := by omega
    have hr := rd_map ls hi
    have hm : (ls.map ofL).length = ls.length := List.length_map ..
    have hwl := hw ls[i] (List.getElem_mem hi)
    rw [List.drop_eq_getElem_cons hi]
    generalize hli : ls[i] = l at hr hwl
    have hwd := words_ev l hwl
    apply Ev.step (f := fun k => (rows_words.f k (ofL l)).bind fun t113 => ((strings_ContainsFunc.f (ofL l)).bind fun t116 => (if t116 = true then (rows_Parse.j1 k (out.map t31) (i : Int) t113 (ls.map ofL) (ls.length : Int) (i : Int) t116) else (rows_Parse.j1 k (out.map t31) (i : Int) t113 (ls.map ofL) (ls.length : Int) (i : Int) (decide ((t113.length : Int) > 24))))))
    · intro k
      simp only [rows_Parse.l0]
      rw [if_pos (by omega), if_pos (by omega), if_pos (by rw [hm]; omega), hr]
    · refine Ev.bind hwd ?_
      rw [odd_f]
      simp only [Option.bind_some, List.length_map]
      by_cases hbad : l.any isOdd = true ∨ 24 < (wordsOf l).length
      · have e : (fun n => if l.any isOdd = true then rows_Parse.j1 n (out.map t31) (i : Int) ((wordsOf l).map ofL) (ls.map ofL) (ls.length : Int) (i : Int) (l.any isOdd) else rows_Parse.j1 n (out.map t31) (i : Int) ((wordsOf l).map ofL) (ls.map ofL) (ls.length : Int) (i : Int) (decide (((wordsOf l).length : Int) > 24))) = fun n => rows_Parse.j1 n (out.map t31) (i : Int) ((wordsOf l).map ofL) (ls.map ofL) (ls.length : Int) (i : Int) true := by
          funext n
          split
          · rename_i h; rw [h]
          · rename_i h
            rw [decide_eq_true (by rcases hbad with hb | hb; exact absurd hb h; omega)]
        rw [e]
        apply Ev.step (f := fun _ => some (([] : List S41), ((i + 1 : Nat) : Int), 2))
        · intro k
          simp only [rows_Parse.j1]
          rw [if_pos trivial, wrap_nat (by omega)]
        · rw [parseGo, if_pos hbad]
          exact Ev.now _
      · have hb1 : ¬ l.any isOdd = true := fun h => hbad (.inl h)
        have hb2 : ¬ 24 < (wordsOf l).length := fun h => hbad (.inr h)
        simp only [if_neg hb1]
        rw [decide_eq_false (by omega), parseGo, if_neg hbad]
        by_cases h0 : (wordsOf l).length = 0
        · rw [if_pos h0]
          apply Ev.step (f := fun k => rows_Parse.l0 k (out.map t31) (ls.map ofL) (ls.length : Int) ((i + 1 : Nat) : Int))
          · intro k
            simp only [rows_Parse.j1]
            rw [if_neg (by decide), if_pos (by rw [List.length_map, h0]; rfl), wrap_nat (by omega)]
          · exact parse_loop ls hx hw d (i + 1) out (by omega) (by omega)
        · rw [if_neg h0]
          by_cases h2 : out.length = 2000
          · rw [if_pos h2]
            apply Ev.step (f := fun _ => some (([] : List S41), ((i + 1 : Nat) : Int), 11))
            · intro k
              simp only [rows_Parse.j1]
              rw [if_neg (by decide), if_neg (by rw [List.length_map]; omega), if_pos (by rw [List.length_map, h2]; rfl), wrap_nat (by omega)]
            · exact Ev.now _
          · rw [if_neg h2]
            apply Ev.step (f := fun k => rows_Parse.l0 k ((out ++ [(⟨(i : Int) + 1, wordsOf l⟩ : Row)]).map t31) (ls.map ofL) (ls.length : Int) ((i + 1 : Nat) : Int))
            · intro k
              simp only [rows_Parse.j1]
              rw [if_neg (by decide), if_neg (by rw [List.length_map]; omega), if_neg (by rw [List.length_map]; omega), if_pos (by rw [List.length_map]; omega), wrap_nat (by omega), List.map_append]
              rfl
            · exact parse_loop ls hx hw d (i + 1) _ (by omega) (by simp; omega)
theorem parse_ev (t : Bs) : Ev (fun k => rows_Parse.f k (ofL t)) (r31 (parseB t)) := by
  unfold parseB
  by_cases h : 65536 < t.length
  · rw [if_pos h]
    refine Ev.congr (fun k => ?_) (Ev.now _)
    unfold rows_Parse.f
    rw [if_pos (by rw [ofL_size]; omega)]
    rfl
  · rw [if_neg h]
    have hl := splitC_len 10 t
    have hp := parse_loop (splitC 10 t) (by omega) (fun l hm => by have := splitC_word_len 10 t l hm; omega) (splitC 10 t).length 0 [] (by omega) (by simp)
    refine Ev.congr (fun k => ?_) hp
    unfold rows_Parse.f
    rw [if_neg (by rw [ofL_size]; omega), split_f t 10 (by omega), Option.bind_some, List.length_map]
    rfl

theorem beq_empty (w : Bs) : ((ofL w).toList == ([] : List UInt8)) = w.isEmpty := by
  rw [ofL_toList]; cases w <;> rfl
def blankC (b : UInt8) : UInt8 := if b = 95 then 32 else b
theorem replaceK_one : ∀ (l : Bs) (k : Nat), Lib.count l [95] = k → Lib.replaceK [95] [32] k l = l.map blankC
  | [], k, h => by
    have h0 : k = 0 := by rw [← h]; exact Lib.count_miss (by simp [Lib.index])
    subst h0
    rfl
  | b :: l, k, h => by
    by_cases hb : b = 95
    · subst hb
      rw [Lib.count_cons_eq] at h
      obtain ⟨m, rfl⟩ : ∃ m, k = m + 1 := ⟨k - 1, by omega⟩
      have ih := replaceK_one l m (by omega)
      have hix : Lib.index ((95 : UInt8) :: l) [95] = ((0 : Nat) : Int) := by rw [Lib.index]; simp [List.isPrefixOf]
      rw [Lib.replaceK_hit _ _ _ _ 0 hix]
      show [] ++ [32] ++ Lib.replaceK [95] [32] m l = _
      rw [ih]
      rfl
    · rw [Lib.count_cons_ne b 95 l hb] at h
      have ih := replaceK_one l k h
      have hbl : blankC b = b := by unfold blankC; rw [if_neg hb]
      rw [List.map_cons, ← ih, hbl]
      cases k with
      | zero => rfl
      | succ m =>
        obtain ⟨j, hj⟩ := Lib.index_of_count (s := l) (old := [95]) (by omega)
        have hp : ([95] : List UInt8).isPrefixOf (b :: l) = false := by simp [List.isPrefixOf, Ne.symm hb]
        have hix : Lib.index (b :: l) [95] = ((j + 1 : Nat) : Int) := by
          rw [Lib.index, hp, hj]
          have : ¬ ((j : Int) == -1) = true := fun e => by have := beq_iff_eq.1 e; omega
          rw [if_neg (by decide), if_neg this]
          omega
        rw [Lib.replaceK_hit _ _ _ _ _ hix, Lib.replaceK_hit _ _ _ _ _ hj]
        rfl
theorem blank_f (t : Bs) (h : t.length < 4294967281) : rows_Blank.f (ofL t) = some (ofL (t.map blankC)) := by
  have hc := Lib.countB_le (⟨#[95]⟩ : ByteArray) (by decide) (ofL t).size (ofL t) (Nat.le_refl _)
  have hr : strings_ReplaceAll.f (ofL t) (⟨#[95]⟩ : ByteArray) (⟨#[32]⟩ : ByteArray) = some (ofL (t.map blankC)) := by
    unfold strings_ReplaceAll.f
    rw [ofL_size] at hc ⊢
    have h1 : (⟨#[32]⟩ : ByteArray).size = 1 := rfl
    rw [if_pos h, if_pos (by decide), if_pos (by rw [h1]; omega)]
    congr 2
    rw [ofL_data]
    have e : Lib.replaceAll t (⟨#[95]⟩ : ByteArray).data.toList (⟨#[32]⟩ : ByteArray).data.toList = t.map blankC := by
      show Lib.replace t [95] [32] (-1) = _
      unfold Lib.replace
      rw [if_neg (by decide)]
      have : Lib.replaceNum t [95] (-1) = Lib.count t [95] := by unfold Lib.replaceNum; rw [if_pos (.inl (by decide))]
      rw [this]
      exact replaceK_one t _ rfl
    rw [e]
  unfold rows_Blank.f
  rw [hr]
  rfl
def isAz (b : UInt8) : Bool := 97 ≤ b && b ≤ 122
def azs : Bs := [97, 98, 99, 100, 101, 102, 103, 104, 105, 106, 107, 108, 109, 110, 111, 112, 113, 114, 115, 116, 117, 118, 119, 120, 121, 122]
theorem dropWhile_nil {p : UInt8 → Bool} : ∀ l : Bs, l.dropWhile p = [] ↔ ∀ x ∈ l, p x = true
  | [] => by simp
  | b :: l => by
    rw [List.dropWhile_cons]
    cases h : p b with
    | true => rw [if_pos rfl, dropWhile_nil l]; simp [h]
    | false => rw [if_neg (by decide)]; simp [h]
theorem trimS_nil (l cs : Bs) : (Lib.trimS l cs = []) ↔ l.all (cs.contains ·) = true := by
  unfold Lib.trimS Lib.trimLeftS Lib.trimRightS
  rw [dropWhile_nil, List.all_eq_true]
  constructor
  · intro h x hx
    have hx' : x ∈ l.reverse.takeWhile (cs.contains ·) ++ l.reverse.dropWhile (cs.contains ·) := by rw [List.takeWhile_append_dropWhile]; exact List.mem_reverse.2 hx
    rcases List.mem_append.1 hx' with h1 | h1
    · have := List.all_takeWhile (l := l.reverse) (p := (cs.contains ·))
      rw [List.all_eq_true] at this
      exact this x h1
    · exact h x (List.mem_reverse.2 h1)
  · intro h x hx
    have := (List.dropWhile_sublist (cs.contains ·) (l := l.reverse)).subset (List.mem_reverse.1 hx)
    exact h x (List.mem_reverse.1 this)
theorem all_bytes {p : UInt8 → Bool} (h : ∀ n : Nat, n < 256 → p (UInt8.ofNat n) = true) (b : UInt8) : p b = true := by
  have := h b.toNat b.toNat_lt
  rwa [UInt8.ofNat_toNat] at this
set_option maxRecDepth 100000 in
theorem azs_iff (b : UInt8) : azs.contains b = isAz b := by
  have := all_bytes (p := fun b => azs.contains b == isAz b) (by decide) b
  exact beq_iff_eq.1 this
theorem trim_f (w cs : Bs) (hw : w.length ≤ 9223372036854775807) (hc : cs.length < 4294967281) (ha : cs.all (fun b => decide (b.toNat < 128)) = true) : strings_Trim.f (ofL w) (ofL cs) = some (ofL (Lib.trimS w cs)) := by
  unfold strings_Trim.f
  rw [if_pos (by rw [ofL_size]; exact hw), if_pos (by rw [ofL_size]; exact hc), if_pos (by rw [ofL_data]; exact ha)]
  rfl
theorem trim_is (w cs : Bs) (p : UInt8 → Bool) (h : ∀ b, cs.contains b = p b) : ((ofL (Lib.trimS w cs)).toList == ([] : List UInt8)) = w.all p := by
  rw [beq_empty, Bool.eq_iff_iff, List.isEmpty_iff, trimS_nil]
  have : (fun x => cs.contains x) = p := funext h
  rw [this]
/-- Words of what is read are no longer than the text. -/
theorem parseGo_short (m : Nat) : ∀ (ls : List Bs) (i : Nat) (out : List Row), (∀ l ∈ ls, l.length ≤ m) → (∀ r ∈ out, ∀ s ∈ r.ws, s.length ≤ m) → ∀ r ∈ (parseGo ls i out).1, ∀ s ∈ r.ws, s.length ≤ m
  | [], i, out, _, ho => ho
  | l :: ls, i, out, hl, ho => by
    rw [parseGo]
    split
    · intro r hr; cases hr
    · split
      · exact parseGo_short m ls _ _ (fun x hx => hl x (List.mem_cons_of_mem _ hx)) ho
      · split
        · intro r hr; cases hr
        · refine parseGo_short m ls _ _ (fun x hx => hl x (List.mem_cons_of_mem _ hx)) (fun r hr s hs => ?_)
          rcases List.mem_append.1 hr with hr | hr
          · exact ho r hr s hs
          · obtain rfl := List.mem_singleton.1 hr
            have h1 := (wordsOf_mem hs).1
            have h2 := splitC_word_len 32 l s h1
            have := hl l List.mem_cons_self
            omega
theorem parseB_short (t : Bs) : ∀ r ∈ (parseB t).1, ∀ s ∈ r.ws, s.length ≤ 65536 := by
  unfold parseB
  split
  · intro r hr; cases hr
  · rename_i h
    exact parseGo_short 65536 _ _ _ (fun l hl => by have := splitC_word_len 10 t l hl; omega) (fun r hr => by cases hr)
end Go.Proofs.YthefdpioaapomaaGreatDoor.Pz
