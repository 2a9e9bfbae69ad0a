/- What the walked texts of layer 6 come to: words, names, numbers, rows that are cut. No memory in sight. -/
import Derived.Test.YthefdpioaapomaaDoorPl
import Derived.Test.YthefdpioaapomaaDoorExtA
import Derived.Lib.SlTrimSet
import Derived.Test.YthefdpioaapomaaDoorPA10
namespace Go.Proofs.YthefdpioaapomaaDoor.Pu6
set_option linter.unusedVariables false
set_option linter.unusedSimpArgs false
open Go.RowKit Go.Proofs.YthefdpioaapomaaDoorW.PrintWords Go.Proofs.YthefdpioaapomaaDoorW.PrintLast Go.Proofs.YthefdpioaapomaaDoor.Ext Go.Proofs.YthefdpioaapomaaDoorW.PrintMore Go.Proofs.YthefdpioaapomaaDoor.PA Go.Proofs.YthefdpioaapomaaDoor.Pl

theorem wrap_nat {i : Nat} (h : i < 4611686018427387904) : wrap64 ((i : Int) + 1) = ((i + 1 : Nat) : Int) := by unfold wrap64; omega
theorem rd_map (xs : List Bs) {i : Nat} (h : i < xs.length) : rdOf ByteArray.empty (xs.map ofL) (i : Int) = ofL xs[i] := by simp [rdOf, h]
theorem rd_at (xs : List ByteArray) {i : Nat} (h : i < xs.length) : rdOf ByteArray.empty xs (i : Int) = xs[i] := by simp [rdOf, h]
theorem bt_ofL (l : Bs) {i : Nat} (h : i < l.length) : bt (ofL l) (i : Int) = (l[i].toNat : Int) := by
  have hs : i < (ofL l).size := by rw [ofL_size]; exact h
  unfold bt
  rw [dif_pos (by simpa using hs)]
  rfl
theorem ofL_nil_iff (l : Bs) : ((ofL l).toList = ([] : List UInt8)) ↔ l = [] := by rw [ofL_toList]
theorem beq_empty (w : Bs) : ((ofL w).toList == ([] : List UInt8)) = w.isEmpty := by
  rw [ofL_toList]; cases w <;> rfl
theorem ofL_append (a b : Bs) : ofL a ++ ofL b = ofL (a ++ b) := by
  apply ByteArray.ext
  rw [ByteArray.data_append]
  simp [ofL]
theorem split_f (l : Bs) (c : UInt8) (h : l.length < 4294967281) : strings_Split.f (ofL l) (⟨#[c]⟩ : ByteArray) = some ((splitC c l).map ofL) := by
  unfold strings_Split.f
  rw [if_pos (by rw [ofL_size]; exact h), if_pos (by show 1 ≤ 1; decide), splitB_one, ofL_data]

/-! Trim of all that is in the set -/
theorem dropWhile_nil {p : UInt8 → Bool} : ∀ l : Bs, l.dropWhile p = [] ↔ ∀ x ∈ l, p x = true
  | [] => by simp
  | b :: l => by
    rw [List.dropWhile_cons]
    cases h : p b with
    | true => rw [if_pos rfl, dropWhile_nil l]; simp [h]
    | false => rw [if_neg (by decide)]; simp [h]
theorem trimS_nil (l cs : Bs) : (Lib.trimS l cs = []) ↔ l.all (cs.contains ·) = true := by
  unfold Lib.trimS Lib.trimLeftS Lib.trimRightS
  rw [dropWhile_nil, List.all_eq_true]
  constructor
  · intro h x hx
    have hx' : x ∈ l.reverse.takeWhile (cs.contains ·) ++ l.reverse.dropWhile (cs.contains ·) := by rw [List.takeWhile_append_dropWhile]; exact List.mem_reverse.2 hx
    rcases List.mem_append.1 hx' with h1 | h1
    · have := List.all_takeWhile (l := l.reverse) (p := (cs.contains ·))
      rw [List.all_eq_true] at this
      exact this x h1
    · exact h x (List.mem_reverse.2 h1)
  · intro h x hx
    have := (List.dropWhile_sublist (cs.contains ·) (l := l.reverse)).subset (List.mem_reverse.1 hx)
    exact h x (List.mem_reverse.1 this)
def isDig (b : UInt8) : Bool := 48 ≤ b && b ≤ 57
def isLet (b : UInt8) : Bool := (97 ≤ b && b ≤ 122) || (48 ≤ b && b ≤ 57)
def letters : Bs := [97, 98, 99, 100, 101, 102, 103, 104, 105, 106, 107, 108, 109, 110, 111, 112, 113, 114, 115, 116, 117, 118, 119, 120, 121, 122, 48, 49, 50, 51, 52, 53, 54, 55, 56, 57]
def digits : Bs := [48, 49, 50, 51, 52, 53, 54, 55, 56, 57]
theorem all_bytes {p : UInt8 → Bool} (h : ∀ n : Nat, n < 256 → p (UInt8.ofNat n) = true) (b : UInt8) : p b = true := by
  have := h b.toNat b.toNat_lt
  rwa [UInt8.ofNat_toNat] at this
set_option maxRecDepth 100000 in
theorem letters_iff (b : UInt8) : letters.contains b = isLet b := by
  have := all_bytes (p := fun b => letters.contains b == isLet b) (by decide) b
  exact beq_iff_eq.1 this
set_option maxRecDepth 100000 in
theorem digits_iff (b : UInt8) : digits.contains b = isDig b := by
  have := all_bytes (p := fun b => digits.contains b == isDig b) (by decide) b
  exact beq_iff_eq.1 this
theorem trim_f (w cs : Bs) (hw : w.length ≤ 9223372036854775807) (hc : cs.length < 4294967281) (ha : cs.all (fun b => decide (b.toNat < 128)) = true) : strings_Trim.f (ofL w) (ofL cs) = some (ofL (Lib.trimS w cs)) := by
  unfold strings_Trim.f
  rw [if_pos (by rw [ofL_size]; exact hw), if_pos (by rw [ofL_size]; exact hc), if_pos (by rw [ofL_data]; exact ha)]
  rfl
theorem trim_is (w cs : Bs) (p : UInt8 → Bool) (h : ∀ b, cs.contains b = p b) : ((ofL (Lib.trimS w cs)).toList == ([] : List UInt8)) = w.all p := by
  rw [beq_empty, Bool.eq_iff_iff, List.isEmpty_iff, trimS_nil]
  have : (fun x => cs.contains x) = p := funext h
  rw [this]

/-! word.Good, word.Number -/
def goodW (w : Bs) : Bool := !w.isEmpty && decide (w.length ≤ 20) && w.all isLet
def numW (w : Bs) : Bool := !w.isEmpty && decide (w.length ≤ 20) && !(w.head? == some 48) && w.all isDig
theorem good_f (w : Bs) : word_Good.f (ofL w) = some (goodW w) := by
  unfold word_Good.f goodW
  by_cases h0 : w = []
  · subst h0
    rw [if_pos ((ofL_nil_iff []).2 rfl)]
    rfl
  · have e0 : w.isEmpty = false := by cases w with | nil => exact absurd rfl h0 | cons => rfl
    rw [if_neg (fun e => h0 ((ofL_nil_iff w).1 e)), e0]
    by_cases h1 : w.length ≤ 20
    · rw [if_pos (by rw [ofL_size]; omega)]
      show (strings_Trim.f (ofL w) (ofL letters)).bind _ = _
      rw [trim_f w letters (by omega) (by decide) (by decide), Option.bind_some, trim_is w letters isLet letters_iff, decide_eq_true h1]
      rfl
    · rw [if_neg (by rw [ofL_size]; omega), decide_eq_false h1]
      rfl
theorem number_f (w : Bs) : word_Number.f (ofL w) = some (numW w) := by
  unfold word_Number.f numW
  cases w with
  | nil =>
    rw [if_pos ((ofL_nil_iff []).2 rfl)]
    rfl
  | cons b w =>
    rw [if_neg (fun e => absurd ((ofL_nil_iff _).1 e) (by simp))]
    by_cases h1 : (b :: w).length ≤ 20
    · rw [if_pos (by rw [ofL_size]; omega), if_pos (by rw [ofL_size]; simp), decide_eq_true h1]
      have hb := bt_ofL (b :: w) (i := 0) (by simp)
      have hb' : bt (ofL (b :: w)) 0 = (b.toNat : Int) := hb
      rw [hb']
      by_cases h48 : b = 48
      · subst h48
        rw [if_pos (show (((48 : UInt8).toNat : Nat) : Int) = 48 from rfl)]
        rfl
      · rw [if_neg (fun e => h48 (UInt8.toNat_inj.1 (by show b.toNat = 48; omega)))]
        show (strings_Trim.f (ofL (b :: w)) (ofL digits)).bind _ = _
        rw [trim_f (b :: w) digits (by omega) (by decide) (by decide), Option.bind_some, trim_is (b :: w) digits isDig digits_iff]
        have : (some b == some (48 : UInt8)) = false := by simpa using h48
        simp [this]
    · rw [if_neg (by rw [ofL_size]; omega), decide_eq_false h1]
      rfl

/-! word.Split -/
def splitW (t : Bs) : List Bs × Int := if 256 < t.length then ([], 11) else if (splitC 45 t).all goodW = true then (splitC 45 t, 0) else ([], 2)
def rW (x : List Bs × Int) : List ByteArray × Int := (x.1.map ofL, x.2)
theorem splitW_loop (xs : List Bs) (hx : xs.length < 1000000000) : ∀ (d i : Nat), i + d = xs.length →
    Ev (fun k => word_Split.l0 k (xs.map ofL) (xs.map ofL) (xs.length : Int) (i : Int)) (if (xs.drop i).all goodW = true then (xs.map ofL, 0) else (([] : List ByteArray), 2))
  | 0, i, hd => by
    rw [List.drop_of_length_le (by omega), show ([] : List Bs).all goodW = true from rfl, if_pos rfl]
    refine Ev.step (f := fun _ => some (xs.map ofL, 0)) (fun k => ?_) (Ev.now _)
    simp only [word_Split.l0]
    rw [if_neg (by omega)]
  | d + 1, i, hd => by
    have hi : i < xs.length := by omega
    rw [List.drop_eq_getElem_cons hi, List.all_cons]
    cases hg : goodW xs[i] with
    | true =>
      rw [Bool.true_and]
      refine Ev.step (fun k => ?_) (splitW_loop xs hx d (i + 1) (by omega))
      simp only [word_Split.l0]
      rw [if_pos (by omega), if_pos (by omega), if_pos (by rw [List.length_map]; omega), rd_map xs hi, good_f, Option.bind_some, hg, if_pos rfl, wrap_nat (by omega)]
    | false =>
      rw [Bool.false_and, if_neg (by decide)]
      refine Ev.step (f := fun _ => some (([] : List ByteArray), 2)) (fun k => ?_) (Ev.now _)
      simp only [word_Split.l0]
      rw [if_pos (by omega), if_pos (by omega), if_pos (by rw [List.length_map]; omega), rd_map xs hi, good_f, Option.bind_some, hg, if_neg (by decide)]
theorem split_ev (t : Bs) : Ev (fun k => word_Split.f k (ofL t)) (rW (splitW t)) := by
  unfold splitW
  by_cases h : 256 < t.length
  · rw [if_pos h]
    refine Ev.congr (fun k => ?_) (Ev.now _)
    unfold word_Split.f
    rw [if_pos (by rw [ofL_size]; omega)]
    rfl
  · rw [if_neg h]
    have hl := splitC_len 45 t
    have hp := splitW_loop (splitC 45 t) (by omega) (splitC 45 t).length 0 (by omega)
    have e : (if ((splitC 45 t).drop 0).all goodW = true then ((splitC 45 t).map ofL, (0 : Int)) else (([] : List ByteArray), 2)) = rW (if (splitC 45 t).all goodW = true then (splitC 45 t, 0) else ([], 2)) := by
      rw [List.drop_zero]
      split <;> rfl
    rw [e] at hp
    refine Ev.congr (fun k => ?_) hp
    unfold word_Split.f
    rw [if_neg (by rw [ofL_size]; omega), split_f t 45 (by omega), Option.bind_some, List.length_map]
    rfl

/-! word.Join -/
def joinD (ws : List Bs) : Bs := Lib.join ws [45]
theorem joinB_ofL (ws : List Bs) : joinB (ws.map ofL) ⟨#[45]⟩ = ofL (joinD ws) := by
  unfold joinB joinD
  rw [List.map_map, show ((fun x : ByteArray => x.data.toList) ∘ ofL) = id from rfl, List.map_id]
  rfl
theorem join_f (ws : List Bs) (h1 : ws.length ≤ 140737488355328) (h2 : (joinD ws).length ≤ 140737488355328) : word_Join.f (ws.map ofL) = some (ofL (joinD ws)) := by
  unfold word_Join.f strings_Join.f
  rw [joinB_ofL, if_pos (by rw [ofL_size]; exact h2), if_pos (by rw [List.length_map]; exact h1)]
  rfl
theorem joinD_cons (w v : Bs) (ws : List Bs) : joinD (w :: v :: ws) = w ++ 45 :: joinD (v :: ws) := by
  unfold joinD
  rw [Lib.join_cons, Lib.join_cons]
  simp [Lib.joinTail]
theorem joinD_one (w : Bs) : joinD [w] = w := Lib.join_one w _

/-! texts -/
theorem texts_loop (l : List ByteArray) (hl : l.length < 1000000000000) : ∀ (d i : Nat), i + d = l.length → Ev (fun k => cubitlaw6_texts.l0 k l l (i : Int)) true
  | 0, i, hd => by
    apply Ev.step (f := fun _ => some true)
    · intro k
      simp only [cubitlaw6_texts.l0]
      rw [if_neg (by omega)]
    · exact Ev.now _
  | d + 1, i, hd => by
    apply Ev.step (f := fun k => cubitlaw6_texts.l0 k l l ((i + 1 : Nat) : Int))
    · intro k
      simp only [cubitlaw6_texts.l0]
      rw [if_pos (by omega), if_pos (by omega), if_pos (by omega), if_pos trivial, wrap_nat (by omega)]
    · exact texts_loop l hl d (i + 1) (by omega)
theorem texts_ev (l : List ByteArray) (hl : l.length < 1000000000000) : Ev (fun k => cubitlaw6_texts.f k l l) true := by
  refine Ev.congr (fun k => ?_) (texts_loop l hl l.length 0 (by omega))
  unfold cubitlaw6_texts.f
  rw [if_pos rfl]
  rfl

/-! word.Cut: the last row is open -/
def cutGo (at_ : Bs) : List Bs → List (List Bs) → List Bs → List (List Bs)
  | [], pre, cur => pre ++ [cur]
  | w :: ws, pre, cur => if w = at_ then cutGo at_ ws (pre ++ [cur]) [] else cutGo at_ ws pre (cur ++ [w])
def cutW (at_ : Bs) (ws : List Bs) : List (List Bs) := cutGo at_ ws [] []
def rL (x : List (List Bs)) : List (List ByteArray) := x.map (·.map ofL)
theorem rL_app (a b : List (List Bs)) : rL (a ++ b) = rL a ++ rL b := by simp [rL]
theorem rd_last (pre : List (List Bs)) (cur : List Bs) : rd_L2 (rL (pre ++ [cur])) (pre.length : Int) = cur.map ofL := by
  unfold rd_L2
  rw [rL_app, Int.toNat_natCast]
  have : (rL pre).length = pre.length := by simp [rL]
  rw [List.getD_eq_getElem?_getD, List.getElem?_append_right (by omega), this, Nat.sub_self]
  rfl
theorem set_last (pre : List (List Bs)) (cur : List Bs) (x : List Bs) : (rL (pre ++ [cur])).set pre.length (x.map ofL) = rL (pre ++ [x]) := by
  rw [rL_app, rL_app]
  have : (rL pre).length = pre.length := by simp [rL]
  rw [List.set_append_right _ _ (by omega), this, Nat.sub_self]
  rfl
theorem cut_loop (at_ : Bs) (xs : List Bs) (hx : xs.length < 1000000000) : ∀ (d i : Nat) (pre : List (List Bs)) (cur : List Bs), i + d = xs.length → pre.length ≤ i → cur.length ≤ i →
    Ev (fun k => word_Cut.l0 k (ofL at_) (rL (pre ++ [cur])) (xs.map ofL) (xs.length : Int) (i : Int)) (rL (cutGo at_ (xs.drop i) pre cur))
  | 0, i, pre, cur, hd, hp, hc => by
    rw [List.drop_of_length_le (by omega)]
    refine Ev.step (f := fun _ => some (rL (pre ++ [cur]))) (fun k => ?_) (Ev.now _)
    simp only [word_Cut.l0]
    rw [if_neg (by omega)]
  | d + 1, i, pre, cur, hd, hp, hc => by
    have hi : i < xs.length := by omega
    have hlen : (rL (pre ++ [cur])).length = pre.length + 1 := by simp [rL]
    have hw1 : wrap64 (((pre.length + 1 : Nat) : Int) - 1) = (pre.length : Int) := by unfold wrap64; omega
    rw [List.drop_eq_getElem_cons hi, cutGo]
    by_cases he : xs[i] = at_
    · rw [if_pos he]
      have ih := cut_loop at_ xs hx d (i + 1) (pre ++ [cur]) [] (by omega) (by simp; omega) (by simp)
      refine Ev.step (fun k => ?_) ih
      simp only [word_Cut.l0]
      rw [if_pos (by omega), if_pos (by omega), if_pos (by rw [List.length_map]; omega), rd_map xs hi, if_pos (by rw [he]), if_pos (by rw [hlen]; omega), wrap_nat (by omega), rL_app (pre ++ [cur])]
      rfl
    · rw [if_neg he]
      have ih := cut_loop at_ xs hx d (i + 1) pre (cur ++ [xs[i]]) (by omega) (by omega) (by simp; omega)
      refine Ev.step (fun k => ?_) ih
      simp only [word_Cut.l0]
      rw [if_pos (by omega), if_pos (by omega), if_pos (by rw [List.length_map]; omega), rd_map xs hi, if_neg (by rw [ofL_toList, ofL_toList]; exact he), hlen, hw1, if_pos (by omega), if_pos (by omega), rd_last, if_pos (by rw [List.length_map]; omega), wrap_nat (by omega), Int.toNat_natCast, show cur.map ofL ++ [ofL xs[i]] = (cur ++ [xs[i]]).map ofL by simp, set_last]
theorem cut_ev (at_ : Bs) (xs : List Bs) (hx : xs.length < 1000000000) : Ev (fun k => word_Cut.f k (xs.map ofL) (ofL at_)) (rL (cutW at_ xs)) := by
  refine Ev.congr (fun k => ?_) (cut_loop at_ xs hx xs.length 0 [] [] (by omega) (by simp) (by simp))
  unfold word_Cut.f
  rw [List.length_map]
  rfl

/-! awake -/
theorem awake_split : splitW [115, 113, 117, 97, 114, 101, 45, 109, 101, 116, 101, 114] = ([[115, 113, 117, 97, 114, 101], [109, 101, 116, 101, 114]], 0) := by rfl
theorem awake_ev : Ev (fun k => cubitlaw6_awake.f k) true := by
  have hs := split_ev [115, 113, 117, 97, 114, 101, 45, 109, 101, 116, 101, 114]
  rw [awake_split] at hs
  have ht := texts_ev ([[115, 113, 117, 97, 114, 101], [109, 101, 116, 101, 114]].map ofL) (by decide)
  have hj := join_f [[115, 113, 117, 97, 114, 101], [109, 101, 116, 101, 114]] (by decide) (by decide)
  have hg := good_f [97, 49]
  have hn := number_f [49, 48, 48]
  unfold cubitlaw6_awake.f
  refine Ev.bind hs ?_
  simp only [rW, if_true]
  refine Ev.bind ht ?_
  simp only [if_true]
  refine Ev.congr (fun k => ?_) (Ev.now true)
  rw [hj, Option.bind_some, if_pos (by rw [ofL_toList]; rfl)]
  show (word_Good.f (ofL [97, 49])).bind _ = _
  rw [hg, Option.bind_some, if_pos (by rfl)]
  show (word_Number.f (ofL [49, 48, 48])).bind _ = _
  rw [hn, Option.bind_some, if_pos (by rfl)]
end Go.Proofs.YthefdpioaapomaaDoor.Pu6
