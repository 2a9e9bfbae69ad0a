/- What the document's own walked texts of layer 6 come to: the same words, names, numbers, rows that are cut. No memory in sight. -/
import Derived.Test.YthefdpioaapomaaDoorLq6
import Derived.Test.YthefdpioaapomaaDoorExtC
import Derived.Test.YthefdpioaapomaaDoorPA11
import Derived.Test.YthefdpioaapomaaDoorPA12
namespace Go.Proofs.YthefdpioaapomaaDoor.Pu6
set_option linter.unusedVariables false
set_option linter.unusedSimpArgs false
open Go.RowKit Go.Proofs.YthefdpioaapomaaDoorW.PrintWords Go.Proofs.YthefdpioaapomaaDoorW.PrintLast Go.Proofs.YthefdpioaapomaaDoor.Ext Go.Proofs.YthefdpioaapomaaDoorW.PrintMore Go.Proofs.YthefdpioaapomaaDoor.PA Go.Proofs.YthefdpioaapomaaDoor.Pl

theorem isLet_int (b : UInt8) : isLet b = decide ((97 ≤ (b.toNat : Int) ∧ (b.toNat : Int) ≤ 122) ∨ (48 ≤ (b.toNat : Int) ∧ (b.toNat : Int) ≤ 57)) := by
  unfold isLet
  rw [Bool.eq_iff_iff]
  simp only [Bool.or_eq_true, Bool.and_eq_true, decide_eq_true_eq, UInt8.le_iff_toNat_le]
  constructor
  · rintro (⟨h1, h2⟩ | ⟨h1, h2⟩)
    · exact .inl ⟨by have : (97 : UInt8).toNat = 97 := rfl; omega, by have : (122 : UInt8).toNat = 122 := rfl; omega⟩
    · exact .inr ⟨by have : (48 : UInt8).toNat = 48 := rfl; omega, by have : (57 : UInt8).toNat = 57 := rfl; omega⟩
  · rintro (⟨h1, h2⟩ | ⟨h1, h2⟩)
    · exact .inl ⟨by show 97 ≤ b.toNat; omega, by show b.toNat ≤ 122; omega⟩
    · exact .inr ⟨by show 48 ≤ b.toNat; omega, by show b.toNat ≤ 57; omega⟩
theorem isDig_int (b : UInt8) : isDig b = decide (48 ≤ (b.toNat : Int) ∧ (b.toNat : Int) ≤ 57) := by
  unfold isDig
  rw [Bool.eq_iff_iff]
  simp only [Bool.and_eq_true, decide_eq_true_eq, UInt8.le_iff_toNat_le]
  constructor
  · rintro ⟨h1, h2⟩
    exact ⟨by have : (48 : UInt8).toNat = 48 := rfl; omega, by have : (57 : UInt8).toNat = 57 := rfl; omega⟩
  · rintro ⟨h1, h2⟩
    exact ⟨by show 48 ≤ b.toNat; omega, by show b.toNat ≤ 57; omega⟩

/-! cubitref6.GoodWord -/
theorem refGood_loop (w : Bs) (hw : w.length < 1000000000000000000) : ∀ (d i : Nat), i + d = w.length →
    Ev (fun k => cubitref6_GoodWord.l0 k (ofL w) (i : Int)) ((w.drop i).all isLet && (!w.isEmpty && decide (w.length ≤ 20)))
  | 0, i, hd => by
    rw [List.drop_of_length_le (by omega)]
    refine Ev.step (f := fun _ => some ([].all isLet && (!w.isEmpty && decide (w.length ≤ 20)))) (fun k => ?_) (Ev.now _)
    simp only [cubitref6_GoodWord.l0]
    rw [if_neg (by rw [ofL_size]; omega), ofL_size]
    cases w with
    | nil => rfl
    | cons b w =>
      rw [if_pos (by simp only [List.length_cons]; omega)]
      simp only [List.all_nil, List.isEmpty_cons, Bool.not_false, Bool.true_and]
      congr 1
      rw [Bool.eq_iff_iff, decide_eq_true_eq, decide_eq_true_eq]
      omega
  | d + 1, i, hd => by
    have hi : i < w.length := by omega
    have hb := bt_ofL w hi
    rw [List.drop_eq_getElem_cons hi, List.all_cons]
    have step : Ev (fun k => cubitref6_GoodWord.j1 k (ofL w) (i : Int) (!isLet w[i])) ((isLet w[i] && (w.drop (i + 1)).all isLet) && (!w.isEmpty && decide (w.length ≤ 20))) := by
      cases hl : isLet w[i] with
      | true =>
        refine Ev.step (fun k => ?_) (refGood_loop w hw d (i + 1) (by omega))
        simp only [cubitref6_GoodWord.j1]
        rw [if_neg (by decide), wrap_nat (by omega)]
      | false =>
        refine Ev.step (f := fun _ => some false) (fun k => ?_) (Ev.now _)
        simp only [cubitref6_GoodWord.j1]
        rw [if_pos (by decide)]
    refine Ev.step (fun k => ?_) step
    have key := isLet_int w[i]
    simp only [cubitref6_GoodWord.l0]
    rw [if_pos (by rw [ofL_size]; omega), if_pos (by omega), hb]
    generalize (w[i].toNat : Int) = n at key
    rw [key]
    split
    · split
      · rw [decide_eq_false (by omega)]; rfl
      · congr 1
        rw [Bool.eq_iff_iff, decide_eq_true_eq, Bool.not_eq_true', decide_eq_false_iff_not]
        omega
    · split
      · split
        · rw [decide_eq_false (by omega)]; rfl
        · congr 1
          rw [Bool.eq_iff_iff, decide_eq_true_eq, Bool.not_eq_true', decide_eq_false_iff_not]
          omega
      · rw [decide_eq_true (by omega)]; rfl
theorem refGood_ev (w : Bs) (hw : w.length < 1000000000000000000) : Ev (fun k => cubitref6_GoodWord.f k (ofL w)) (goodW w) := by
  have h := refGood_loop w hw w.length 0 (by omega)
  have e : goodW w = ((w.drop 0).all isLet && (!w.isEmpty && decide (w.length ≤ 20))) := by
    rw [List.drop_zero, Bool.and_comm]; rfl
  rw [e]
  exact h

/-! cubitref6.figures, Number -/
theorem figures_loop (w : Bs) (hw : w.length < 1000000000000000000) : ∀ (d i : Nat), i + d = w.length →
    Ev (fun k => cubitref6_figures.l0 k (ofL w) (i : Int)) ((w.drop i).all isDig && !w.isEmpty)
  | 0, i, hd => by
    rw [List.drop_of_length_le (by omega)]
    refine Ev.step (f := fun _ => some ([].all isDig && !w.isEmpty)) (fun k => ?_) (Ev.now _)
    simp only [cubitref6_figures.l0]
    rw [if_neg (by rw [ofL_size]; omega), ofL_toList]
    cases w <;> rfl
  | d + 1, i, hd => by
    have hi : i < w.length := by omega
    have hb := bt_ofL w hi
    rw [List.drop_eq_getElem_cons hi, List.all_cons]
    have step : Ev (fun k => cubitref6_figures.j1 k (ofL w) (i : Int) (!isDig w[i])) ((isDig w[i] && (w.drop (i + 1)).all isDig) && !w.isEmpty) := by
      cases hl : isDig w[i] with
      | true =>
        refine Ev.step (fun k => ?_) (figures_loop w hw d (i + 1) (by omega))
        simp only [cubitref6_figures.j1]
        rw [if_neg (by decide), wrap_nat (by omega)]
      | false =>
        refine Ev.step (f := fun _ => some false) (fun k => ?_) (Ev.now _)
        simp only [cubitref6_figures.j1]
        rw [if_pos (by decide)]
    refine Ev.step (fun k => ?_) step
    have key := isDig_int w[i]
    simp only [cubitref6_figures.l0]
    rw [if_pos (by rw [ofL_size]; omega), if_pos (by omega), hb]
    generalize (w[i].toNat : Int) = n at key
    rw [key]
    split
    · rw [decide_eq_false (by omega)]; rfl
    · congr 1
      rw [Bool.eq_iff_iff, decide_eq_true_eq, Bool.not_eq_true', decide_eq_false_iff_not]
      omega
theorem figures_ev (w : Bs) (hw : w.length < 1000000000000000000) : Ev (fun k => cubitref6_figures.f k (ofL w)) (w.all isDig && !w.isEmpty) := by
  have h := figures_loop w hw w.length 0 (by omega)
  rw [List.drop_zero] at h
  exact h
theorem refNumber_ev (w : Bs) (hw : w.length < 1000000000000000000) : Ev (fun k => cubitref6_Number.f k (ofL w)) (numW w) := by
  unfold cubitref6_Number.f
  refine Ev.bind (figures_ev w hw) ?_
  refine Ev.congr (fun k => ?_) (Ev.now (numW w))
  unfold numW
  cases w with
  | nil => rfl
  | cons b w =>
    rw [List.isEmpty_cons, Bool.not_false, Bool.and_true, Bool.true_and]
    cases hd : (b :: w).all isDig with
    | false => rw [if_neg (by decide), Bool.and_false]
    | true =>
      rw [if_pos rfl, Bool.and_true]
      by_cases hl : (b :: w).length ≤ 20
      · rw [if_pos (by rw [ofL_size]; omega), if_pos (by rw [ofL_size]; simp only [List.length_cons]; omega), decide_eq_true hl, Bool.true_and]
        have hb : bt (ofL (b :: w)) 0 = (b.toNat : Int) := bt_ofL (b :: w) (i := 0) (by simp)
        rw [hb, List.head?_cons]
        congr 1
        by_cases h48 : b = 48
        · subst h48; rfl
        · have h1 : ((b.toNat : Int) != 48) = true := bne_iff_ne.mpr (fun e => h48 (UInt8.toNat_inj.1 (by show b.toNat = 48; omega)))
          have h2 : (some b == some (48 : UInt8)) = false := by simpa using h48
          rw [h1, h2]; rfl
      · rw [if_neg (by rw [ofL_size]; omega), decide_eq_false hl, Bool.false_and]

/-! cubitref6.Split -/
def glue (pre : List Bs) (cur : Bs) (l : Bs) : List Bs := match splitC 45 l with
  | [] => pre ++ [cur]
  | w :: ws => pre ++ (cur ++ w) :: ws
theorem glue_hit (pre : List Bs) (cur l : Bs) : glue pre cur (45 :: l) = glue (pre ++ [cur]) [] l := by
  unfold glue
  rw [splitC_hit]
  obtain ⟨w, ws, h⟩ := splitC_cons 45 l
  rw [h]
  simp
theorem glue_miss (pre : List Bs) (cur l : Bs) {b : UInt8} (hb : b ≠ 45) : glue pre cur (b :: l) = glue pre (cur ++ [b]) l := by
  unfold glue
  obtain ⟨w, ws, h⟩ := splitC_cons 45 l
  rw [splitC_miss hb h, h]
  simp
theorem glue_end (pre : List Bs) (cur : Bs) : glue pre cur [] = pre ++ [cur] := by simp [glue, splitC]
theorem glue_start (l : Bs) : glue [] [] l = splitC 45 l := by
  unfold glue
  obtain ⟨w, ws, h⟩ := splitC_cons 45 l
  rw [h]
  rfl
theorem ext_ofL (t p r : Bs) (fr : Nat) (h : t.drop fr = p ++ r) : (ofL t).extract fr (fr + p.length) = ofL p := by
  apply ByteArray.ext
  apply Array.ext'
  show ((ofL t).extract fr (fr + p.length)).data.toList = p
  rw [← Lib.toList_data, Lib.extract_toList, ofL_data, h, Nat.add_sub_cancel_left, List.take_left]
theorem ext_one (t : Bs) {i : Nat} (hi : i < t.length) : (ofL t).extract i (i + 1) = ofL [t[i]] :=
  ext_ofL t [t[i]] (t.drop (i + 1)) i (by rw [List.drop_eq_getElem_cons hi]; rfl)
theorem refSplit_l1 (xs : List Bs) (hx : xs.length < 1000000000) (hs : ∀ w ∈ xs, w.length < 1000000000) : ∀ (d i : Nat), i + d = xs.length →
    Ev (fun k => cubitref6_Split.l1 k (xs.map ofL) (i : Int)) (if (xs.drop i).all goodW = true then (xs.map ofL, 0) else (([] : List ByteArray), 2))
  | 0, i, hd => by
    rw [List.drop_of_length_le (by omega), show ([] : List Bs).all goodW = true from rfl, if_pos rfl]
    refine Ev.step (f := fun _ => some (xs.map ofL, 0)) (fun k => ?_) (Ev.now _)
    simp only [cubitref6_Split.l1]
    rw [if_neg (by rw [List.length_map]; omega)]
  | d + 1, i, hd => by
    have hi : i < xs.length := by omega
    rw [List.drop_eq_getElem_cons hi, List.all_cons]
    have hg := refGood_ev xs[i] (by have := hs _ (List.getElem_mem hi); omega)
    apply Ev.step (f := fun k => (cubitref6_GoodWord.f k (ofL xs[i])).bind fun t => (if t = true then (cubitref6_Split.l1 k (xs.map ofL) ((i + 1 : Nat) : Int)) else (some (([] : List ByteArray), 2))))
    · intro k
      simp only [cubitref6_Split.l1]
      rw [if_pos (by rw [List.length_map]; omega), if_pos (by omega), rd_map xs hi, wrap_nat (by omega)]
    · refine Ev.bind hg ?_
      cases hgi : goodW xs[i] with
      | true =>
        rw [Bool.true_and]
        simp only [if_true]
        exact refSplit_l1 xs hx hs d (i + 1) (by omega)
      | false =>
        rw [Bool.false_and]
        simp only [Bool.false_eq_true, if_false]
        exact Ev.now _
theorem rdOf_last (pre : List Bs) (cur : Bs) : rdOf ByteArray.empty ((pre ++ [cur]).map ofL) (pre.length : Int) = ofL cur := by
  rw [rd_map (pre ++ [cur]) (i := pre.length) (by simp)]
  simp
theorem setOf_last (pre : List Bs) (cur x : Bs) : ((pre ++ [cur]).map ofL).set pre.length (ofL x) = (pre ++ [x]).map ofL := by
  rw [List.map_append, List.map_append, List.set_append_right _ _ (by simp), List.length_map, Nat.sub_self]
  rfl
theorem refSplit_l0 (t : Bs) (ht : t.length ≤ 256) : ∀ (d i : Nat) (pre : List Bs) (cur : Bs), i + d = t.length → pre.length ≤ i → cur.length ≤ i → (∀ w ∈ pre, w.length ≤ 256) →
    Ev (fun k => cubitref6_Split.l0 k (ofL t) ((pre ++ [cur]).map ofL) (i : Int)) (if (glue pre cur (t.drop i)).all goodW = true then ((glue pre cur (t.drop i)).map ofL, 0) else (([] : List ByteArray), 2))
  | 0, i, pre, cur, hd, hp, hc, hs => by
    rw [List.drop_of_length_le (by omega), glue_end]
    refine Ev.step (fun k => ?_) (refSplit_l1 (pre ++ [cur]) (by simp; omega) (fun w hw => by
      rcases List.mem_append.1 hw with h | h
      · have := hs w h; omega
      · rw [List.mem_singleton.1 h]; omega) (pre ++ [cur]).length 0 (by omega))
    simp only [cubitref6_Split.l0]
    rw [if_neg (by rw [ofL_size]; omega)]
    rfl
  | d + 1, i, pre, cur, hd, hp, hc, hs => by
    have hi : i < t.length := by omega
    have hb := bt_ofL t hi
    have hlen : ((pre ++ [cur]).map ofL).length = pre.length + 1 := by simp
    have hw1 : wrap64 (((pre.length + 1 : Nat) : Int) - 1) = (pre.length : Int) := by unfold wrap64; omega
    rw [List.drop_eq_getElem_cons hi]
    by_cases he : t[i] = 45
    · rw [he, glue_hit]
      have ih := refSplit_l0 t ht d (i + 1) (pre ++ [cur]) [] (by omega) (by simp; omega) (by simp) (fun w hw => by
        rcases List.mem_append.1 hw with h | h
        · exact hs w h
        · rw [List.mem_singleton.1 h]; omega)
      refine Ev.step (fun k => ?_) ih
      simp only [cubitref6_Split.l0]
      rw [if_pos (by rw [ofL_size]; omega), if_pos (by omega), hb, he, if_pos (show (((45 : UInt8).toNat : Nat) : Int) = 45 from rfl), if_pos (by rw [hlen]; omega), wrap_nat (by omega)]
      simp only [List.map_append, List.map_cons, List.map_nil]
      rfl
    · rw [glue_miss pre cur _ he]
      have ih := refSplit_l0 t ht d (i + 1) pre (cur ++ [t[i]]) (by omega) (by omega) (by simp; omega) hs
      refine Ev.step (fun k => ?_) ih
      have h45 : ¬ ((t[i].toNat : Int) = 45) := fun e => he (UInt8.toNat_inj.1 (by show t[i].toNat = 45; omega))
      simp only [cubitref6_Split.l0]
      rw [if_pos (by rw [ofL_size]; omega), if_pos (by omega), hb, if_neg h45, hlen, hw1, if_pos (by omega), if_pos (by omega), wrap_nat (by omega), if_pos (by omega), if_pos (by rw [ofL_size]; omega), rdOf_last, Int.toNat_natCast, Int.toNat_natCast, Int.toNat_natCast, ext_one t hi, ofL_append, setOf_last, if_pos (by rw [ofL_size, ofL_size]; simp; omega)]
theorem refSplit_ev (t : Bs) : Ev (fun k => cubitref6_Split.f k (ofL t)) (rW (splitW t)) := by
  unfold splitW
  by_cases h : 256 < t.length
  · rw [if_pos h]
    refine Ev.congr (fun k => ?_) (Ev.now _)
    unfold cubitref6_Split.f
    rw [if_pos (by rw [ofL_size]; omega)]
    rfl
  · rw [if_neg h]
    have hp := refSplit_l0 t (by omega) t.length 0 [] [] (by omega) (by simp) (by simp) (by simp)
    rw [List.drop_zero, glue_start] at hp
    have e : (if (splitC 45 t).all goodW = true then ((splitC 45 t).map ofL, (0 : Int)) else (([] : List ByteArray), 2)) = rW (if (splitC 45 t).all goodW = true then (splitC 45 t, 0) else ([], 2)) := by
      split <;> rfl
    rw [e] at hp
    refine Ev.congr (fun k => ?_) hp
    unfold cubitref6_Split.f
    rw [if_neg (by rw [ofL_size]; omega)]
    rfl

/-! cubitref6.Join -/
theorem joinD_snoc (w : Bs) : ∀ ws : List Bs, ws ≠ [] → joinD (ws ++ [w]) = joinD ws ++ 45 :: w
  | [], h => absurd rfl h
  | [v], _ => by rw [joinD_one]; show joinD [v, w] = _; rw [joinD_cons, joinD_one]
  | v :: u :: ws, _ => by
    have ih := joinD_snoc w (u :: ws) (by simp)
    rw [joinD_cons, List.append_assoc]
    show joinD (v :: u :: (ws ++ [w])) = _
    rw [joinD_cons]
    show v ++ 45 :: joinD ((u :: ws) ++ [w]) = _
    rw [ih]
    simp
theorem joinD_take_le (ws : List Bs) : ∀ (d i : Nat), i + d = ws.length → (joinD (ws.take i)).length ≤ (joinD ws).length
  | 0, i, hd => by rw [List.take_of_length_le (by omega)]; exact Nat.le_refl _
  | d + 1, i, hd => by
    have ih := joinD_take_le ws d (i + 1) (by omega)
    have hi : i < ws.length := by omega
    refine Nat.le_trans ?_ ih
    rw [List.take_succ_eq_append_getElem hi]
    cases i with
    | zero => simp [joinD, Lib.join]
    | succ i =>
      rw [joinD_snoc _ _ (by intro e; have := congrArg List.length e; rw [List.length_take, List.length_nil] at this; omega)]
      simp
theorem refJoin_loop (ws : List Bs) (h0 : ws.length < 1000000000) (h1 : (joinD ws).length ≤ 140737488355328) : ∀ (d i : Nat), i + d = ws.length →
    Ev (fun k => cubitref6_Join.l0 k (ws.map ofL) (ofL (joinD (ws.take i))) (i : Int)) (ofL (joinD ws))
  | 0, i, hd => by
    rw [List.take_of_length_le (by omega)]
    refine Ev.step (f := fun _ => some (ofL (joinD ws))) (fun k => ?_) (Ev.now _)
    simp only [cubitref6_Join.l0]
    rw [if_neg (by rw [List.length_map]; omega)]
  | d + 1, i, hd => by
    have hi : i < ws.length := by omega
    have ih := refJoin_loop ws h0 h1 d (i + 1) (by omega)
    have hle := joinD_take_le ws d (i + 1) (by omega)
    rw [List.take_succ_eq_append_getElem hi] at hle ih
    cases i with
    | zero =>
      rw [List.take_zero, List.nil_append, joinD_one] at hle ih
      refine Ev.step (fun k => ?_) ih
      simp only [cubitref6_Join.l0]
      rw [if_pos (by rw [List.length_map]; omega), if_neg (by omega), if_pos (by omega), rd_map ws hi, List.take_zero, if_pos (by
        rw [ofL_size, ofL_size]
        have : (joinD []).length = 0 := rfl
        omega), ofL_append, wrap_nat (by omega)]
      rfl
    | succ i =>
      have hne : ws.take (i + 1) ≠ [] := by intro e; have := congrArg List.length e; rw [List.length_take, List.length_nil] at this; omega
      rw [joinD_snoc _ _ hne] at hle ih
      simp only [List.length_append, List.length_cons] at hle
      refine Ev.step (fun k => ?_) ih
      simp only [cubitref6_Join.l0]
      rw [if_pos (by rw [List.length_map]; omega), if_pos (by omega), if_pos (by rw [ofL_size]; omega), if_pos (by omega), rd_map ws hi, show (⟨#[45]⟩ : ByteArray) = ofL [45] from rfl, ofL_append, ofL_append, if_pos (by rw [ofL_size, ofL_size]; simp; omega), wrap_nat (by omega), List.append_assoc]
      rfl
theorem refJoin_ev (ws : List Bs) (h0 : ws.length < 1000000000) (h1 : (joinD ws).length ≤ 140737488355328) : Ev (fun k => cubitref6_Join.f k (ws.map ofL)) (ofL (joinD ws)) :=
  refJoin_loop ws h0 h1 ws.length 0 (by omega)

/-! cubitref6.Cut -/
theorem refCut_loop (at_ : Bs) : ∀ (xs : List Bs) (pre : List (List Bs)) (cur : List Bs), pre.length + xs.length < 1000000000 → cur.length + xs.length < 1000000000 →
    cutLoop (ofL at_) (xs.map ofL) (rL (pre ++ [cur])) = some (rL (cutGo at_ xs pre cur))
  | [], pre, cur, _, _ => rfl
  | x :: xs, pre, cur, hp, hc => by
    have hlen : (rL (pre ++ [cur])).length = pre.length + 1 := by simp [rL]
    have hlast : (rL (pre ++ [cur])).getD ((rL (pre ++ [cur])).length - 1) [] = cur.map ofL := by
      have := rd_last pre cur
      unfold rd_L2 at this
      rw [hlen, Nat.add_sub_cancel]
      rwa [Int.toNat_natCast] at this
    simp only [List.length_cons] at hp hc
    rw [List.map_cons, cutLoop, cutGo]
    unfold cutStep
    rw [ofL_toList, ofL_toList]
    by_cases he : x = at_
    · rw [if_pos he, if_pos he, if_pos (by rw [hlen]; omega), Option.bind_some]
      have ih := refCut_loop at_ xs (pre ++ [cur]) [] (by simp; omega) (by simp; omega)
      rw [rL_app (pre ++ [cur])] at ih
      exact ih
    · rw [if_neg he, if_neg he, if_pos (by rw [hlen]; omega), hlast, if_pos (by rw [List.length_map]; omega), Option.bind_some, hlen, Nat.add_sub_cancel]
      have ih := refCut_loop at_ xs pre (cur ++ [x]) (by omega) (by simp; omega)
      rw [← ih, ← set_last pre cur (cur ++ [x]), List.map_append]
      rfl
theorem refCut_f (at_ : Bs) (xs : List Bs) (hx : xs.length < 100000000) : cubitref6_Cut.f (xs.map ofL) (ofL at_) = some (rL (cutW at_ xs)) :=
  refCut_loop at_ xs [] [] (by simp; omega) (by simp; omega)
end Go.Proofs.YthefdpioaapomaaDoor.Pu6
