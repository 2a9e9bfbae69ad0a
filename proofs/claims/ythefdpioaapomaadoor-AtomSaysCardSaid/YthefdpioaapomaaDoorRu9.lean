/- What the document's own walked texts of layer 9 come to: powers, names that may be, an atom that is read and shown, the order. No memory in sight. -/
import Derived.Test.YthefdpioaapomaaDoorLs9
import Derived.Test.YthefdpioaapomaaDoorExtG
import Derived.Test.YthefdpioaapomaaDoorPN1
import Derived.Test.YthefdpioaapomaaDoorPC3
import Derived.Test.YthefdpioaapomaaDoorPC7
namespace Go.Proofs.YthefdpioaapomaaDoor.Pu9
set_option linter.unusedVariables false
set_option linter.unusedSimpArgs false
open Go.RowKit Go.Proofs.YthefdpioaapomaaDoorW.PrintWords Go.Proofs.YthefdpioaapomaaDoorW.PrintLast Go.Proofs.YthefdpioaapomaaDoor.Ext Go.Proofs.YthefdpioaapomaaDoorW.PrintMore Go.Proofs.YthefdpioaapomaaDoor.PC Go.Proofs.YthefdpioaapomaaDoor.Pl

theorem wrap_nat2 {i : Nat} (h : i < 9223372036854775807) : wrap64 ((i : Int) + 1) = ((i + 1 : Nat) : Int) := by unfold wrap64; omega
theorem bt_ofL (l : Bs) {i : Nat} (h : i < l.length) : bt (ofL l) (i : Int) = (l[i].toNat : Int) := by
  have hs : i < (ofL l).size := by rw [ofL_size]; exact h
  unfold bt
  rw [dif_pos (by simpa using hs)]
  rfl
theorem isLet_int (b : UInt8) : isLet b = decide ((97 ≤ (b.toNat : Int) ∧ (b.toNat : Int) ≤ 122) ∨ (48 ≤ (b.toNat : Int) ∧ (b.toNat : Int) ≤ 57)) := by
  unfold isLet
  rw [Bool.eq_iff_iff]
  simp only [Bool.or_eq_true, Bool.and_eq_true, decide_eq_true_eq, UInt8.le_iff_toNat_le]
  constructor
  · rintro (⟨h1, h2⟩ | ⟨h1, h2⟩)
    · exact .inl ⟨by have : (97 : UInt8).toNat = 97 := rfl; omega, by have : (122 : UInt8).toNat = 122 := rfl; omega⟩
    · exact .inr ⟨by have : (48 : UInt8).toNat = 48 := rfl; omega, by have : (57 : UInt8).toNat = 57 := rfl; omega⟩
  · rintro (⟨h1, h2⟩ | ⟨h1, h2⟩)
    · exact .inl ⟨by show 97 ≤ b.toNat; omega, by show b.toNat ≤ 122; omega⟩
    · exact .inr ⟨by show 48 ≤ b.toNat; omega, by show b.toNat ≤ 57; omega⟩
theorem isDig_int (b : UInt8) : isDig b = decide (48 ≤ (b.toNat : Int) ∧ (b.toNat : Int) ≤ 57) := by
  unfold isDig
  rw [Bool.eq_iff_iff]
  simp only [Bool.and_eq_true, decide_eq_true_eq, UInt8.le_iff_toNat_le]
  constructor
  · rintro ⟨h1, h2⟩
    exact ⟨by have : (48 : UInt8).toNat = 48 := rfl; omega, by have : (57 : UInt8).toNat = 57 := rfl; omega⟩
  · rintro ⟨h1, h2⟩
    exact ⟨by show 48 ≤ b.toNat; omega, by show b.toNat ≤ 57; omega⟩
theorem refGood_loop (w : Bs) (hw : w.length ≤ 9223372036854775807) : ∀ (d i : Nat), i + d = w.length →
    Ev (fun k => PN.cubitref6_GoodWord.l0 k (ofL w) (i : Int)) ((w.drop i).all isLet && (!w.isEmpty && decide (w.length ≤ 20)))
  | 0, i, hd => by
    rw [List.drop_of_length_le (by omega)]
    refine Ev.step (f := fun _ => some ([].all isLet && (!w.isEmpty && decide (w.length ≤ 20)))) (fun k => ?_) (Ev.now _)
    simp only [PN.cubitref6_GoodWord.l0]
    rw [if_neg (by rw [ofL_size]; omega), ofL_size]
    cases w with
    | nil => rfl
    | cons b w =>
      rw [if_pos (by simp only [List.length_cons]; omega)]
      simp only [List.all_nil, List.isEmpty_cons, Bool.not_false, Bool.true_and]
      congr 1
      rw [Bool.eq_iff_iff, decide_eq_true_eq, decide_eq_true_eq]
      omega
  | d + 1, i, hd => by
    have hi : i < w.length := by omega
    have hb := bt_ofL w hi
    rw [List.drop_eq_getElem_cons hi, List.all_cons]
    have step : Ev (fun k => PN.cubitref6_GoodWord.j1 k (ofL w) (i : Int) (!isLet w[i])) ((isLet w[i] && (w.drop (i + 1)).all isLet) && (!w.isEmpty && decide (w.length ≤ 20))) := by
      cases hl : isLet w[i] with
      | true =>
        refine Ev.step (fun k => ?_) (refGood_loop w hw d (i + 1) (by omega))
        simp only [PN.cubitref6_GoodWord.j1]
        rw [if_neg (by decide), wrap_nat2 (by omega)]
      | false =>
        refine Ev.step (f := fun _ => some false) (fun k => ?_) (Ev.now _)
        simp only [PN.cubitref6_GoodWord.j1]
        rw [if_pos (by decide)]
    refine Ev.step (fun k => ?_) step
    have key := isLet_int w[i]
    simp only [PN.cubitref6_GoodWord.l0]
    rw [if_pos (by rw [ofL_size]; omega), if_pos (by omega), hb]
    generalize (w[i].toNat : Int) = n at key
    rw [key]
    split
    · split
      · rw [decide_eq_false (by omega)]; rfl
      · congr 1
        rw [Bool.eq_iff_iff, decide_eq_true_eq, Bool.not_eq_true', decide_eq_false_iff_not]
        omega
    · split
      · split
        · rw [decide_eq_false (by omega)]; rfl
        · congr 1
          rw [Bool.eq_iff_iff, decide_eq_true_eq, Bool.not_eq_true', decide_eq_false_iff_not]
          omega
      · rw [decide_eq_true (by omega)]; rfl
theorem refGood_ev (w : Bs) (hw : w.length ≤ 9223372036854775807) : Ev (fun k => PN.cubitref6_GoodWord.f k (ofL w)) (goodW w) := by
  have h := refGood_loop w hw w.length 0 (by omega)
  have e : goodW w = ((w.drop 0).all isLet && (!w.isEmpty && decide (w.length ≤ 20))) := by
    rw [List.drop_zero, Bool.and_comm]; rfl
  rw [e]
  exact h
theorem figures_loop (w : Bs) (hw : w.length ≤ 9223372036854775807) : ∀ (d i : Nat), i + d = w.length →
    Ev (fun k => PN.cubitref6_figures.l0 k (ofL w) (i : Int)) ((w.drop i).all isDig && !w.isEmpty)
  | 0, i, hd => by
    rw [List.drop_of_length_le (by omega)]
    refine Ev.step (f := fun _ => some ([].all isDig && !w.isEmpty)) (fun k => ?_) (Ev.now _)
    simp only [PN.cubitref6_figures.l0]
    rw [if_neg (by rw [ofL_size]; omega), ofL_toList]
    cases w <;> rfl
  | d + 1, i, hd => by
    have hi : i < w.length := by omega
    have hb := bt_ofL w hi
    rw [List.drop_eq_getElem_cons hi, List.all_cons]
    have step : Ev (fun k => PN.cubitref6_figures.j1 k (ofL w) (i : Int) (!isDig w[i])) ((isDig w[i] && (w.drop (i + 1)).all isDig) && !w.isEmpty) := by
      cases hl : isDig w[i] with
      | true =>
        refine Ev.step (fun k => ?_) (figures_loop w hw d (i + 1) (by omega))
        simp only [PN.cubitref6_figures.j1]
        rw [if_neg (by decide), wrap_nat2 (by omega)]
      | false =>
        refine Ev.step (f := fun _ => some false) (fun k => ?_) (Ev.now _)
        simp only [PN.cubitref6_figures.j1]
        rw [if_pos (by decide)]
    refine Ev.step (fun k => ?_) step
    have key := isDig_int w[i]
    simp only [PN.cubitref6_figures.l0]
    rw [if_pos (by rw [ofL_size]; omega), if_pos (by omega), hb]
    generalize (w[i].toNat : Int) = n at key
    rw [key]
    split
    · rw [decide_eq_false (by omega)]; rfl
    · congr 1
      rw [Bool.eq_iff_iff, decide_eq_true_eq, Bool.not_eq_true', decide_eq_false_iff_not]
      omega
theorem figures_ev (w : Bs) (hw : w.length ≤ 9223372036854775807) : Ev (fun k => PN.cubitref6_figures.f k (ofL w)) (w.all isDig && !w.isEmpty) := by
  have h := figures_loop w hw w.length 0 (by omega)
  rw [List.drop_zero] at h
  exact h

/-! May -/
theorem ext_ofL (t p r : Bs) (fr : Nat) (h : t.drop fr = p ++ r) : (ofL t).extract fr (fr + p.length) = ofL p := by
  apply ByteArray.ext
  apply Array.ext'
  show ((ofL t).extract fr (fr + p.length)).data.toList = p
  rw [← Lib.toList_data, Lib.extract_toList, ofL_data, h, Nat.add_sub_cancel_left, List.take_left]
theorem ext_take (t : Bs) {n : Nat} (h : n ≤ t.length) : (ofL t).extract 0 n = ofL (t.take n) := by
  have h1 := ext_ofL t (t.take n) (t.drop n) 0 (by rw [List.drop_zero, List.take_append_drop])
  rwa [List.length_take, Nat.min_eq_left h, Nat.zero_add] at h1
theorem ext_drop (t : Bs) {n : Nat} (h : n ≤ t.length) : (ofL t).extract n (ofL t).size = ofL (t.drop n) := by
  have h1 := ext_ofL t (t.drop n) [] n (by rw [List.append_nil])
  rwa [List.length_drop, Nat.add_sub_cancel' h, ← ofL_size] at h1
theorem may_ev (s : Bs) (hs : s.length ≤ 9223372036854775807) : Ev (fun k => PN.cubitref6_May.f k (ofL s)) (mayB s) := by
  unfold PN.cubitref6_May.f
  refine Ev.bind (refGood_ev s hs) ?_
  unfold mayB bad4
  cases hg : goodW s with
  | false =>
    simp only [Bool.false_eq_true, if_false, Bool.and_false, Bool.false_and]
    exact Ev.now _
  | true =>
    simp only [if_true, ofL_toList, Bool.and_true]
    by_cases h1 : s = [112, 101, 114]
    · subst h1; exact Ev.now false
    · by_cases h2 : s = [97, 110, 100]
      · subst h2; exact Ev.now false
      · by_cases h3 : s = [115, 113, 117, 97, 114, 101]
        · subst h3; exact Ev.now false
        · by_cases h4 : s = [99, 117, 98, 105, 99]
          · subst h4; exact Ev.now false
          · have e : ([[112, 101, 114], [97, 110, 100], [115, 113, 117, 97, 114, 101], [99, 117, 98, 105, 99]] : List Bs).contains s = false := by
              simp [h1, h2, h3, h4]
            rw [e]
            simp only [h1, h2, h3, h4, if_false, Bool.not_false, Bool.true_and]
            refine Ev.bind (figures_ev s hs) ?_
            unfold isNum restOf
            cases hp : pow.isPrefixOf s with
            | true =>
              obtain ⟨t, ht⟩ := List.isPrefixOf_iff_prefix.1 hp
              subst ht
              have hf : (pow ++ t).all isDig = false := rfl
              simp only [hf, Bool.false_and, Bool.false_eq_true, if_false, if_true]
              have hlen : (ofL (pow ++ t)).size = 3 + t.length := by rw [ofL_size, List.length_append]; rfl
              have hd : (pow ++ t).drop pow.length = t := List.drop_left
              rw [hd]
              cases t with
              | nil => exact Ev.now true
              | cons b t =>
                have e3 : (ofL (pow ++ b :: t)).extract 0 3 = ofL pow := by
                  rw [ext_take _ (by rw [List.length_append]; show 3 ≤ 3 + _; omega)]
                  rfl
                have e4 : (ofL (pow ++ b :: t)).extract 3 (ofL (pow ++ b :: t)).size = ofL (b :: t) := by
                  rw [ext_drop _ (by rw [List.length_append]; show 3 ≤ 3 + _; omega)]
                  rfl
                have fg := figures_ev (b :: t) (by rw [List.length_append] at hs; omega)
                rw [Bool.and_comm (!(b :: t).isEmpty)]
                refine Ev.congr (fun k => ?_) (Ev.bind (f := fun _ t => some (!t)) fg (Ev.now _))
                · rw [if_pos (by rw [hlen]; simp only [List.length_cons]; omega), if_pos (by omega), if_pos (by rw [hlen]; omega), e3, if_pos (by rw [ofL_toList]; rfl), e4]
            | false =>
              simp only [Bool.false_eq_true, if_false]
              by_cases hf : (s.all isDig && !s.isEmpty) = true
              · simp only [hf, if_true]
                rw [Bool.and_comm, hf]
                exact Ev.now _
              · have hf2 : (s.all isDig && !s.isEmpty) = false := Bool.eq_false_iff.mpr hf
                simp only [hf2, Bool.false_eq_true, if_false]
                rw [Bool.and_comm (!s.isEmpty), hf2]
                refine Ev.congr (fun k => ?_) (Ev.now true)
                by_cases hl : 3 < s.length
                · have e3 : (ofL s).extract 0 3 = ofL (s.take 3) := ext_take s (by omega)
                  have hne : s.take 3 ≠ pow := by
                    intro e
                    have : pow.isPrefixOf s = true := List.isPrefixOf_iff_prefix.2 ⟨s.drop 3, by rw [← e, List.take_append_drop]⟩
                    rw [this] at hp
                    cases hp
                  rw [if_pos (by rw [ofL_size]; omega), if_pos (by omega), if_pos (by rw [ofL_size]; omega), e3, if_neg (by rw [ofL_toList]; exact hne)]
                · rw [if_neg (by rw [ofL_size]; omega)]

/-! has, row, GoodKnown -/
theorem hasN_loop (l : List Bs) (s : Bs) (hl : l.length < 1000000000000) : ∀ (d i : Nat), i + d = l.length → Ev (fun k => PN.cubitref6_has.l0 k (l.map ofL) (ofL s) (i : Int)) ((l.drop i).contains s)
  | 0, i, hd => by
    rw [List.drop_of_length_le (by omega)]
    refine Ev.step (f := fun _ => some false) (fun k => ?_) (Ev.now _)
    simp only [PN.cubitref6_has.l0]
    rw [if_neg (by rw [List.length_map]; omega)]
  | d + 1, i, hd => by
    have hi : i < l.length := by omega
    rw [List.drop_eq_getElem_cons hi, List.contains_cons]
    by_cases he : l[i] = s
    · have e : (s == l[i]) = true := by rw [he]; exact beq_self_eq_true _
      rw [e, Bool.true_or]
      refine Ev.step (f := fun _ => some true) (fun k => ?_) (Ev.now _)
      simp only [PN.cubitref6_has.l0]
      rw [if_pos (by rw [List.length_map]; omega), if_pos (by omega), rd_map l hi, if_pos (by rw [he])]
    · have e : (s == l[i]) = false := beq_eq_false_iff_ne.2 (fun h => he h.symm)
      rw [e, Bool.false_or]
      refine Ev.step (fun k => ?_) (hasN_loop l s hl d (i + 1) (by omega))
      simp only [PN.cubitref6_has.l0]
      rw [if_pos (by rw [List.length_map]; omega), if_pos (by omega), rd_map l hi, if_neg (by rw [ofL_toList, ofL_toList]; exact he), wrap_nat2 (by omega)]
theorem hasN_ev (l : List Bs) (s : Bs) (hl : l.length < 1000000000000) : Ev (fun k => PN.cubitref6_has.f k (l.map ofL) (ofL s)) (l.contains s) := hasN_loop l s hl l.length 0 (by omega)
theorem hasC_loop (l : List Bs) (s : Bs) (hl : l.length < 1000000000000) : ∀ (d i : Nat), i + d = l.length → Ev (fun k => cubitref6_has.l0 k (l.map ofL) (ofL s) (i : Int)) ((l.drop i).contains s)
  | 0, i, hd => by
    rw [List.drop_of_length_le (by omega)]
    refine Ev.step (f := fun _ => some false) (fun k => ?_) (Ev.now _)
    simp only [cubitref6_has.l0]
    rw [if_neg (by rw [List.length_map]; omega)]
  | d + 1, i, hd => by
    have hi : i < l.length := by omega
    rw [List.drop_eq_getElem_cons hi, List.contains_cons]
    by_cases he : l[i] = s
    · have e : (s == l[i]) = true := by rw [he]; exact beq_self_eq_true _
      rw [e, Bool.true_or]
      refine Ev.step (f := fun _ => some true) (fun k => ?_) (Ev.now _)
      simp only [cubitref6_has.l0]
      rw [if_pos (by rw [List.length_map]; omega), if_pos (by omega), rd_map l hi, if_pos (by rw [he])]
    · have e : (s == l[i]) = false := beq_eq_false_iff_ne.2 (fun h => he h.symm)
      rw [e, Bool.false_or]
      refine Ev.step (fun k => ?_) (hasC_loop l s hl d (i + 1) (by omega))
      simp only [cubitref6_has.l0]
      rw [if_pos (by rw [List.length_map]; omega), if_pos (by omega), rd_map l hi, if_neg (by rw [ofL_toList, ofL_toList]; exact he), wrap_nat2 (by omega)]
theorem hasC_ev (l : List Bs) (s : Bs) (hl : l.length < 1000000000000) : Ev (fun k => cubitref6_has.f k (l.map ofL) (ofL s)) (l.contains s) := hasC_loop l s hl l.length 0 (by omega)
theorem refRow_go : ∀ (l had hadr : List Bs), (∀ s ∈ l, s.length ≤ 9223372036854775807) → (∀ s, had.contains s = hadr.contains s) → had.length + l.length < 1000000000 →
    Ev (fun k => rowR k (l.map ofL) (had.map ofL)) (rowB l hadr)
  | [], had, hadr, _, _, _ => Ev.now true
  | s :: l, had, hadr, h, hh, hl => by
    simp only [List.map_cons, rowR]
    simp only [List.length_cons] at hl
    refine Ev.bind (may_ev s (h s List.mem_cons_self)) ?_
    rw [rowB]
    cases mayB s with
    | false =>
      simp only [Bool.false_eq_true, if_false, Bool.false_and]
      exact Ev.now _
    | true =>
      simp only [if_true, Bool.true_and]
      refine Ev.bind (hasN_ev had s (by omega)) ?_
      rw [hh s]
      cases hc : hadr.contains s with
      | true =>
        simp only [if_true, Bool.not_true, Bool.false_and]
        exact Ev.now _
      | false =>
        simp only [Bool.false_eq_true, if_false, Bool.not_false, Bool.true_and]
        have ih := refRow_go l (had ++ [s]) (s :: hadr) (fun x hx => h x (List.mem_cons_of_mem _ hx)) (fun x => by
          rw [List.contains_cons, ← hh x, Bool.eq_iff_iff]
          simp [or_comm]) (by simp; omega)
        rw [List.map_append] at ih
        exact ih
theorem GoodKnown_ev (l m : List Bs) (hl : ∀ s ∈ l, s.length ≤ 9223372036854775807) (hm : ∀ s ∈ m, s.length ≤ 9223372036854775807) (h1 : l.length < 1000000) (h2 : m.length < 1000000) :
    Ev (fun k => cubitref6_GoodKnown.f k (l.map ofL) (m.map ofL)) (rowB l [] && rowB m []) := by
  unfold cubitref6_GoodKnown.f
  have e1 : Ev (fun k => cubitref6_row.f k (l.map ofL)) (rowB l []) := refRow_go l [] [] hl (fun _ => rfl) (by simp; omega)
  have e2 : Ev (fun k => cubitref6_row.f k (m.map ofL)) (rowB m []) := refRow_go m [] [] hm (fun _ => rfl) (by simp; omega)
  refine Ev.bind e1 ?_
  cases rowB l [] with
  | true =>
    simp only [if_true, Bool.true_and]
    exact Ev.bind e2 (Ev.now _)
  | false =>
    simp only [Bool.false_eq_true, if_false, Bool.false_and]
    exact Ev.now _
end Go.Proofs.YthefdpioaapomaaDoor.Pu9
