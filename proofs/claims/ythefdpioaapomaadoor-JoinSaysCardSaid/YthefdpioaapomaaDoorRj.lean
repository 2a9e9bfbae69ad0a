/- The document's small functions of layer 25 are the program's: a language, a width, how often a sign stands, a text filled. No memory in sight. -/
import Derived.Test.YthefdpioaapomaaDoorPj
import Derived.Test.YthefdpioaapomaaDoorLq7
import Derived.Test.YthefdpioaapomaaDoorPJ1
import Derived.Test.YthefdpioaapomaaDoorPJ2
namespace Go.Proofs.YthefdpioaapomaaDoor.Pj
set_option linter.unusedVariables false
set_option linter.unusedSimpArgs false
open Go.RowKit Go.Proofs.YthefdpioaapomaaDoorW.PrintWords Go.Proofs.YthefdpioaapomaaDoorW.PrintLast Go.Proofs.YthefdpioaapomaaDoor.Ext Go.Proofs.YthefdpioaapomaaDoorW.PrintMore Go.Proofs.YthefdpioaapomaaDoor.PA Go.Proofs.YthefdpioaapomaaDoor.PJ Go.Proofs.YthefdpioaapomaaDoor.Pl Go.Proofs.YthefdpioaapomaaDoor.Pu7

theorem wrap_add {i m : Nat} (h : i < 4611686018427387904) (hm : m ≤ 1000) : wrap64 ((i : Int) + (m : Int)) = ((i + m : Nat) : Int) := by unfold wrap64; omega
/-! How often -/
def cntO (x : Bs) : Bs → Nat
  | [] => 0
  | b :: l => (if x.isPrefixOf (b :: l) = true then 1 else 0) + cntO x l
theorem cntO_none (x : Bs) : ∀ l : Bs, (∀ j, j < l.length → Lib.occAt l x j = false) → cntO x l = 0
  | [], _ => rfl
  | b :: l, h => by
    have h0 : x.isPrefixOf (b :: l) = false := h 0 (by simp)
    rw [cntO, if_neg (by rw [h0]; decide), cntO_none x l (fun j hj => h (j + 1) (by simpa using hj))]
theorem cntO_at (x : Bs) : ∀ (i : Nat) (l : Bs), Lib.occAt l x i = true → i < l.length → (∀ j, j < i → Lib.occAt l x j = false) → cntO x l = 1 + cntO x (l.drop (i + 1))
  | _, [], _, hl, _ => by simp at hl
  | 0, b :: l, h, _, _ => by
    have h0 : x.isPrefixOf (b :: l) = true := h
    rw [cntO, if_pos h0]
    rfl
  | i + 1, b :: l, h, hl, hn => by
    have h0 : x.isPrefixOf (b :: l) = false := hn 0 (by omega)
    rw [cntO, if_neg (by rw [h0]; decide), cntO_at x i l h (by simpa using hl) (fun j hj => hn (j + 1) (by omega))]
    simp
theorem cntO_skip (c : UInt8) (hc : c ≠ 123) {l : Bs} (h : ([123, c, 125] : Bs).isPrefixOf l = true) : cntO [123, c, 125] (l.drop 1) = cntO [123, c, 125] (l.drop 3) := by
  match l, h with
  | [], h => cases h
  | [a], h => simp [List.isPrefixOf] at h
  | [a, b], h => simp [List.isPrefixOf] at h
  | a :: b :: d :: l, h =>
    simp only [List.isPrefixOf, Bool.and_eq_true, beq_iff_eq] at h
    obtain ⟨rfl, rfl, rfl, _⟩ := h
    show cntO [123, c, 125] (c :: 125 :: l) = cntO [123, c, 125] l
    rw [cntO, if_neg (by simp [List.isPrefixOf, Ne.symm hc]), cntO, if_neg (by simp [List.isPrefixOf])]
    omega
theorem count_O (c : UInt8) (hc : c ≠ 123) : ∀ (n : Nat) (l : Bs), l.length < n → Lib.countFrom [123, c, 125] n l = cntO [123, c, 125] l
  | 0, _, h => by omega
  | n + 1, l, h => by
    rw [Lib.countFrom]
    rcases Lib.index_spec l [123, c, 125] with ⟨h1, h2⟩ | ⟨i, h1, h2, h3, h4⟩
    · rw [h1, if_pos (by rfl), cntO_none _ _ (fun j hj => h2 j (by omega))]
    · have hr := Lib.occAt_room h3
      have hr' : i + 3 ≤ l.length := by
        rcases hr with hr | hr
        · exact hr
        · cases hr
      rw [h1, if_neg (by rw [Bool.not_eq_true, beq_eq_false_iff_ne]; omega), cntO_at _ i l h3 (by omega) (fun j hj => h4 j hj), count_O c hc n _ (by rw [List.length_drop]; simp only [List.length_cons, List.length_nil]; omega)]
      have hs := cntO_skip c hc h3
      rw [List.drop_drop, List.drop_drop] at hs
      rw [hs, Int.toNat_natCast]
      rfl
theorem count_is (c : UInt8) (hc : c ≠ 123) (l : Bs) : Lib.count l [123, c, 125] = cntO [123, c, 125] l := count_O c hc _ l (by omega)
theorem times_loop (c : UInt8) (t : Bs) (ht : t.length ≤ 100000) : ∀ (d i m : Nat), i + d = t.length → m ≤ i → Ev (fun k => cubitref18_times.l0 k (ofL t) (ofL [123, c, 125]) (m : Int) (i : Int)) ((m + cntO [123, c, 125] (t.drop i) : Nat) : Int) := by
  intro d
  induction d with
  | zero =>
    intro i m hi hm
    have e : m + cntO [123, c, 125] (t.drop i) = m := by rw [List.drop_of_length_le (by omega)]; rfl
    rw [e]
    apply Ev.step (f := fun _ => some (m : Int))
    · intro k
      simp only [cubitref18_times.l0]
      rw [ofL_size, ofL_size, show (([123, c, 125] : Bs).length : Int) = ((3 : Nat) : Int) from rfl, wrap_add (by omega) (by omega), if_neg (by omega)]
    · exact Ev.now _
  | succ d ih =>
    intro i m hi hm
    have hlt : i < t.length := by omega
    by_cases h3 : i + 3 ≤ t.length
    · have hex : ((ofL t).extract i (i + 3)).toList = (t.drop i).take 3 := by rw [Lib.extract_toList, ofL_data, Nat.add_sub_cancel_left]
      have hoc : Lib.occAt t [123, c, 125] i = ((t.drop i).take 3 == [123, c, 125]) := Lib.occAt_iff_take t [123, c, 125] i h3
      have hd : t.drop i = t[i] :: t.drop (i + 1) := List.drop_eq_getElem_cons hlt
      by_cases hq : (t.drop i).take 3 = [123, c, 125]
      · have hp : ([123, c, 125] : Bs).isPrefixOf (t.drop i) = true := by
          have : Lib.occAt t [123, c, 125] i = true := by rw [hoc, hq]; exact beq_self_eq_true _
          exact this
        have e : m + cntO [123, c, 125] (t.drop i) = (m + 1) + cntO [123, c, 125] (t.drop (i + 1)) := by rw [hd] at hp ⊢; rw [cntO, if_pos hp]; omega
        rw [e]
        apply Ev.step (f := fun k => cubitref18_times.l0 k (ofL t) (ofL [123, c, 125]) ((m + 1 : Nat) : Int) ((i + 1 : Nat) : Int))
        · intro k
          simp only [cubitref18_times.l0]
          rw [ofL_size, ofL_size, show (([123, c, 125] : Bs).length : Int) = ((3 : Nat) : Int) from rfl, wrap_add (by omega) (by omega), if_pos (by omega), if_pos (by omega), if_pos (by omega), Int.toNat_natCast, Int.toNat_natCast, hex, ofL_toList, if_pos hq, wrap_nat (by omega), wrap_nat (by omega)]
        · exact ih (i + 1) (m + 1) (by omega) (by omega)
      · have hp : ([123, c, 125] : Bs).isPrefixOf (t.drop i) = false := by
          have : Lib.occAt t [123, c, 125] i = false := by rw [hoc]; exact beq_eq_false_iff_ne.2 hq
          exact this
        have e : m + cntO [123, c, 125] (t.drop i) = m + cntO [123, c, 125] (t.drop (i + 1)) := by rw [hd] at hp ⊢; rw [cntO, if_neg (by rw [hp]; decide)]; omega
        rw [e]
        apply Ev.step (f := fun k => cubitref18_times.l0 k (ofL t) (ofL [123, c, 125]) (m : Int) ((i + 1 : Nat) : Int))
        · intro k
          simp only [cubitref18_times.l0]
          rw [ofL_size, ofL_size, show (([123, c, 125] : Bs).length : Int) = ((3 : Nat) : Int) from rfl, wrap_add (by omega) (by omega), if_pos (by omega), if_pos (by omega), if_pos (by omega), Int.toNat_natCast, Int.toNat_natCast, hex, ofL_toList, if_neg hq, wrap_nat (by omega)]
        · exact ih (i + 1) m (by omega) (by omega)
    · have e : m + cntO [123, c, 125] (t.drop i) = m := by
        rw [cntO_none _ _ (fun j hj => ?_)]
        · rfl
        · cases ho : Lib.occAt (t.drop i) [123, c, 125] j with
          | false => rfl
          | true =>
            rcases Lib.occAt_room ho with hr | hr
            · rw [List.length_drop] at hr; simp only [List.length_cons, List.length_nil] at hr; omega
            · cases hr
      rw [e]
      apply Ev.step (f := fun _ => some (m : Int))
      · intro k
        simp only [cubitref18_times.l0]
        rw [ofL_size, ofL_size, show (([123, c, 125] : Bs).length : Int) = ((3 : Nat) : Int) from rfl, wrap_add (by omega) (by omega), if_neg (by omega)]
      · exact Ev.now _
theorem times_ev (c : UInt8) (hc : c ≠ 123) (t : Bs) (ht : t.length ≤ 100000) : Ev (fun k => cubitref18_times.f k (ofL t) (ofL [123, c, 125])) ((Lib.count t [123, c, 125] : Nat) : Int) := by
  have h := times_loop c t ht t.length 0 0 (by omega) (Nat.le_refl _)
  rw [List.drop_zero, Nat.zero_add, ← count_is c hc] at h
  exact h
/-! A language -/
theorem isAz_iff (b : UInt8) : isAz b = (decide (97 ≤ (b.toNat : Int)) && decide ((b.toNat : Int) ≤ 122)) := by
  unfold isAz
  rw [Bool.eq_iff_iff]
  simp only [Bool.and_eq_true, decide_eq_true_eq, UInt8.le_iff_toNat_le]
  rw [show (97 : UInt8).toNat = 97 from rfl, show (122 : UInt8).toNat = 122 from rfl]
  omega
theorem all_loop (s : Bs) (hs : s.length ≤ 100000) : ∀ (d i : Nat), i + d = s.length → Ev (fun k => cubitref14_all.l0 k (ofL s) 97 122 (i : Int)) ((s.drop i).all isAz) := by
  intro d
  induction d with
  | zero =>
    intro i hi
    rw [List.drop_of_length_le (by omega)]
    apply Ev.step (f := fun _ => some true)
    · intro k
      simp only [cubitref14_all.l0]
      rw [ofL_size, if_neg (by omega)]
    · exact Ev.now _
  | succ d ih =>
    intro i hi
    have hlt : i < s.length := by omega
    rw [List.drop_eq_getElem_cons hlt, List.all_cons, isAz_iff]
    by_cases h1 : (97 : Int) ≤ (s[i].toNat : Int)
    · rw [decide_eq_true h1, Bool.true_and]
      by_cases h2 : (s[i].toNat : Int) ≤ 122
      · rw [decide_eq_true h2, Bool.true_and]
        apply Ev.step (f := fun k => cubitref14_all.j1 k (ofL s) 97 122 (i : Int) false)
        · intro k
          simp only [cubitref14_all.l0]
          rw [ofL_size, if_pos (by omega), if_pos (by omega), bt_ofL s hlt, if_neg (by omega), show decide ((s[i].toNat : Int) > 122) = false from decide_eq_false (by omega)]
        · apply Ev.step (f := fun k => cubitref14_all.l0 k (ofL s) 97 122 ((i + 1 : Nat) : Int))
          · intro k
            simp only [cubitref14_all.j1]
            rw [if_neg (by decide), wrap_nat (by omega)]
          · exact ih (i + 1) (by omega)
      · rw [decide_eq_false h2, Bool.false_and]
        apply Ev.step (f := fun k => cubitref14_all.j1 k (ofL s) 97 122 (i : Int) true)
        · intro k
          simp only [cubitref14_all.l0]
          rw [ofL_size, if_pos (by omega), if_pos (by omega), bt_ofL s hlt, if_neg (by omega), show decide ((s[i].toNat : Int) > 122) = true from decide_eq_true (by omega)]
        · apply Ev.step (f := fun _ => some false)
          · intro k
            simp only [cubitref14_all.j1]
            rw [if_pos trivial]
          · exact Ev.now _
    · rw [decide_eq_false h1, Bool.false_and, Bool.false_and]
      apply Ev.step (f := fun k => cubitref14_all.j1 k (ofL s) 97 122 (i : Int) true)
      · intro k
        simp only [cubitref14_all.l0]
        rw [ofL_size, if_pos (by omega), if_pos (by omega), bt_ofL s hlt, if_pos (by omega)]
      · apply Ev.step (f := fun _ => some false)
        · intro k
          simp only [cubitref14_all.j1]
          rw [if_pos trivial]
        · exact Ev.now _
theorem Lang_ev (s : Bs) (hs : s.length ≤ 100000) : Ev (fun k => cubitref14_Lang.f k (ofL s)) (decide (2 ≤ s.length) && decide (s.length ≤ 3) && s.all isAz) := by
  have ha := all_loop s hs s.length 0 (by omega)
  rw [List.drop_zero] at ha
  have hb : Ev (fun k => (cubitref14_all.f k (ofL s) 97 122).bind fun t => some t) (s.all isAz) := Ev.bind (f := fun _ t => some t) ha (Ev.now _)
  by_cases h2 : s.length = 2
  · rw [decide_eq_true (by omega), decide_eq_true (by omega), Bool.true_and, Bool.true_and]
    refine Ev.congr (fun k => ?_) hb
    unfold cubitref14_Lang.f
    rw [ofL_size, if_pos (by omega)]
  · by_cases h3 : s.length = 3
    · rw [decide_eq_true (by omega), decide_eq_true (by omega), Bool.true_and, Bool.true_and]
      refine Ev.congr (fun k => ?_) hb
      unfold cubitref14_Lang.f
      rw [ofL_size, if_neg (by omega), if_pos (by omega)]
    · have e : (decide (2 ≤ s.length) && decide (s.length ≤ 3)) = false := by
        rw [Bool.and_eq_false_iff]
        by_cases h : 2 ≤ s.length
        · exact .inr (decide_eq_false (by omega))
        · exact .inl (decide_eq_false h)
      rw [e, Bool.false_and]
      refine Ev.congr (fun k => ?_) (Ev.now false)
      unfold cubitref14_Lang.f
      rw [ofL_size, if_neg (by omega), if_neg (by omega)]
theorem lang18_ev (s : Bs) (hs : s.length ≤ 100000) : Ev (fun k => cubitref18_lang.f k (ofL s)) (langB s) := by
  unfold cubitref18_lang.f
  refine Ev.bind (a := decide (2 ≤ s.length) && decide (s.length ≤ 3) && s.all isAz) (f := fun _ t => if t = true then some true else some ((ofL s).toList == [114, 111, 111, 116])) (Lang_ev s hs) ?_
  refine Ev.congr (fun _ => ?_) (Ev.now _)
  unfold langB
  rw [ofL_toList]
  cases decide (2 ≤ s.length) && decide (s.length ≤ 3) && s.all isAz with
  | true => rw [if_pos rfl, Bool.or_true]
  | false => rw [if_neg (by decide), Bool.or_false]
theorem width18_f (s : Bs) : cubitref18_Width.f (ofL s) = some (widthB s) := by
  unfold cubitref18_Width.f widthB
  rw [ofL_toList]
  by_cases h1 : s = wLong
  · rw [if_pos h1, h1]; rfl
  · rw [if_neg h1, beq_eq_false_iff_ne.2 h1, Bool.false_or]
    by_cases h2 : s = wShort
    · rw [if_pos h2, h2]; rfl
    · rw [if_neg h2, beq_eq_false_iff_ne.2 h2, Bool.false_or]
theorem widths18_f (s : Bs) : cubitref18_Widths.f (ofL s) = some ((widthsB s).map ofL) := by
  unfold cubitref18_Widths.f widthsB
  rw [ofL_toList]
  by_cases h1 : s = wNarrow
  · rw [if_pos h1, if_pos h1]
    rfl
  · rw [if_neg h1, if_neg h1]
    by_cases h2 : s = wShort
    · rw [if_pos h2, if_pos h2]
      rfl
    · rw [if_neg h2, if_neg h2]
      rfl
/-! A text filled -/
theorem fill18_no (a : List Bs) (t acc : Bs) (ht : t.length ≤ 100000) {i : Nat} (hi : i < t.length) (hs : acc.length < 9000000000000000000) {r : ByteArray} (h : Ev (fun k => cubitref18_Fill.l0 k (ofL t) (a.map ofL) (ofL (acc ++ [t[i]])) ((i + 1 : Nat) : Int)) r) :
    Ev (fun k => cubitref18_Fill.j1 k (ofL t) (a.map ofL) (ofL acc) (i : Int) false) r := by
  apply Ev.step (f := fun k => cubitref18_Fill.l0 k (ofL t) (a.map ofL) (ofL (acc ++ [t[i]])) ((i + 1 : Nat) : Int))
  · intro k
    simp only [cubitref18_Fill.j1]
    rw [if_neg (by decide), wrap_nat (by omega), if_pos (by omega), if_pos (by omega), if_pos (by rw [ofL_size]; omega), Int.toNat_natCast, Int.toNat_natCast, cut_one t hi, if_pos (by rw [ofL_size, ofL_size]; simp only [List.length_cons, List.length_nil]; omega), ofL_append]
  · exact h
theorem fill18_loop (a : List Bs) (t : Bs) (ht : t.length ≤ 100000) (ha : a.length ≤ 100) : ∀ (d i : Nat) (acc : Bs), t.length ≤ i + d → i ≤ t.length → acc.length + (fillB (a.map ofL) (t.drop i)).length < 9000000000000000000 → Ev (fun k => cubitref18_Fill.l0 k (ofL t) (a.map ofL) (ofL acc) (i : Int)) (ofL (acc ++ fillB (a.map ofL) (t.drop i))) := by
  intro d
  induction d with
  | zero =>
    intro i acc hd hi hb
    rw [List.drop_of_length_le (by omega), fillB_nil, List.append_nil]
    apply Ev.step (f := fun _ => some (ofL acc))
    · intro k
      simp only [cubitref18_Fill.l0]
      rw [ofL_size, if_neg (by omega)]
    · exact Ev.now _
  | succ d ih =>
    intro i acc hd hi hb
    by_cases hlt : i < t.length
    case neg =>
      rw [List.drop_of_length_le (by omega), fillB_nil, List.append_nil]
      apply Ev.step (f := fun _ => some (ofL acc))
      · intro k
        simp only [cubitref18_Fill.l0]
        rw [ofL_size, if_neg (by omega)]
      · exact Ev.now _
    have hd1 : t.drop i = t[i] :: t.drop (i + 1) := List.drop_eq_getElem_cons hlt
    by_cases h3 : i + 2 < t.length
    case neg =>
      have hsg : signOf (a.map ofL) (t.drop i) = none := sign_short _ (by rw [List.length_drop]; omega)
      rw [hd1] at hsg hb ⊢
      rw [fillB_none hsg] at hb ⊢
      simp only [List.length_cons] at hb
      have h := ih (i + 1) (acc ++ [t[i]]) (by omega) (by omega) (by simp only [List.length_append, List.length_cons, List.length_nil]; omega)
      rw [List.append_assoc, List.singleton_append] at h
      apply Ev.step (f := fun k => cubitref18_Fill.j1 k (ofL t) (a.map ofL) (ofL acc) (i : Int) false)
      · intro k
        simp only [cubitref18_Fill.l0]
        rw [ofL_size, if_pos (by omega), show (2 : Int) = ((2 : Nat) : Int) from rfl, wrap_add (by omega) (by omega), if_neg (by omega)]
      · exact fill18_no a t acc ht hlt (by omega) h
    have hd2 : t.drop (i + 1) = t[i + 1] :: t.drop (i + 2) := List.drop_eq_getElem_cons (by omega)
    have hd3 : t.drop (i + 2) = t[i + 2] :: t.drop (i + 3) := List.drop_eq_getElem_cons h3
    have b0 := bt_ofL t hlt
    have b1 := bt_ofL t (i := i + 1) (by omega)
    have b2 := bt_ofL t h3
    have e8 : ∀ (x y : UInt8), x ≠ y → (x.toNat : Int) ≠ (y.toNat : Int) := fun x y h e => h (UInt8.toNat_inj.1 (by omega))
    by_cases hq : t[i] = 123 ∧ t[i + 2] = 125 ∧ 48 ≤ t[i + 1].toNat ∧ t[i + 1].toNat ≤ 57 ∧ t[i + 1].toNat - 48 < (a.map ofL).length
    · obtain ⟨q0, q2, q1, q3, q4⟩ := hq
      rw [q0] at b0
      rw [q2] at b2
      have hx := sign_yes (a.map ofL) (b1 := t[i + 1]) (l := t.drop (i + 3)) q1 q3 q4
      have hdd : t.drop i = 123 :: t[i + 1] :: 125 :: t.drop (i + 3) := by rw [hd1, hd2, hd3, q0, q2]
      rw [hdd] at hb ⊢
      rw [fillB_some hx] at hb ⊢
      rw [show (t[i + 1] :: 125 :: t.drop (i + 3)).drop 2 = t.drop (i + 3) from rfl] at hb ⊢
      rw [List.length_map] at q4
      have hga : (a.map ofL)[t[i + 1].toNat - 48]'(by rw [List.length_map]; exact q4) = ofL a[t[i + 1].toNat - 48] := List.getElem_map ..
      rw [hga, ofL_data] at hb ⊢
      simp only [List.length_append] at hb
      have h := ih (i + 3) (acc ++ a[t[i + 1].toNat - 48]) (by omega) (by omega) (by simp only [List.length_append]; omega)
      rw [List.append_assoc] at h
      have hm : (((t[i + 1].toNat : Int) - 48) % 256) = ((t[i + 1].toNat - 48 : Nat) : Int) := by omega
      apply Ev.step (f := fun k => cubitref18_Fill.j1 k (ofL t) (a.map ofL) (ofL acc) (i : Int) true)
      · intro k
        simp only [cubitref18_Fill.l0]
        rw [ofL_size, if_pos (by omega), show (2 : Int) = ((2 : Nat) : Int) from rfl, wrap_add (by omega) (by omega), if_pos (by omega), if_pos (by omega), if_pos (by rw [b0]; rfl), if_pos (by omega), if_pos (by rw [b2]; rfl), wrap_nat (by omega), if_pos (by omega), if_pos (by omega), b1, if_pos (by omega), if_pos (by omega), hm, decide_eq_true (by rw [List.length_map]; omega)]
      · apply Ev.step (f := fun k => cubitref18_Fill.l0 k (ofL t) (a.map ofL) (ofL (acc ++ a[t[i + 1].toNat - 48])) ((i + 3 : Nat) : Int))
        · intro k
          simp only [cubitref18_Fill.j1]
          rw [if_pos trivial, wrap_nat (by omega), if_pos (by omega), if_pos (by rw [ofL_size]; omega), b1, hm, if_pos (by omega), if_pos (by rw [List.length_map]; omega), rd_map a q4, if_pos (by rw [ofL_size, ofL_size]; omega), ofL_append, show (2 : Int) = ((2 : Nat) : Int) from rfl, wrap_add (by omega) (by omega), wrap_nat (by omega)]
        · exact h
    · have hsg : signOf (a.map ofL) (t[i] :: t[i + 1] :: t[i + 2] :: t.drop (i + 3)) = none := sign_no _ hq
      rw [← hd3, ← hd2] at hsg
      rw [hd1] at hb ⊢
      rw [fillB_none hsg] at hb ⊢
      simp only [List.length_cons] at hb
      have h := ih (i + 1) (acc ++ [t[i]]) (by omega) (by omega) (by simp only [List.length_append, List.length_cons, List.length_nil]; omega)
      rw [List.append_assoc, List.singleton_append] at h
      apply Ev.step (f := fun k => cubitref18_Fill.j1 k (ofL t) (a.map ofL) (ofL acc) (i : Int) false)
      · intro k
        simp only [cubitref18_Fill.l0]
        rw [ofL_size, if_pos (by omega), show (2 : Int) = ((2 : Nat) : Int) from rfl, wrap_add (by omega) (by omega), if_pos (by omega), if_pos (by omega), b0, b2, wrap_nat (by omega), b1]
        by_cases q0 : t[i] = 123
        · rw [if_pos (by rw [q0]; rfl), if_pos (by omega)]
          by_cases q2 : t[i + 2] = 125
          · rw [if_pos (by rw [q2]; rfl), if_pos (by omega), if_pos (by omega)]
            by_cases q1 : 48 ≤ t[i + 1].toNat
            · rw [if_pos (by omega)]
              by_cases q3 : t[i + 1].toNat ≤ 57
              · rw [if_pos (by omega), decide_eq_false (fun q4 => hq ⟨q0, q2, q1, q3, by rw [List.length_map] at q4 ⊢; omega⟩)]
              · rw [if_neg (by omega)]
            · rw [if_neg (by omega)]
          · rw [if_neg (fun e => e8 _ _ q2 (by rw [e]; rfl))]
        · rw [if_neg (fun e => e8 _ _ q0 (by rw [e]; rfl))]
      · exact fill18_no a t acc ht hlt (by omega) h
theorem fill18_ev (a : List Bs) (t : Bs) (ht : t.length ≤ 100000) (ha : a.length ≤ 100) (hb : (fillP a t).length < 9000000000000000000) : Ev (fun k => cubitref18_Fill.f k (ofL t) (a.map ofL)) (ofL (fillP a t)) := by
  have h := fill18_loop a t ht ha t.length 0 [] (by omega) (by omega) (by rw [List.drop_zero, List.length_nil, Nat.zero_add]; exact hb)
  rw [List.drop_zero, List.nil_append] at h
  exact h
/-! The contracts -/
theorem drawn_below {w w' : World} (h : Drawn0 w w') : Below w.heap.size w w' := by
  obtain ⟨n, rfl⟩ := h.out
  exact pw_below_drewN (Below.refl _ _) n
theorem lang18_any (s : ByteArray) (b : Bool) (hs : s.size ≤ 100000) (hb : langB s.data.toList = b) (w : World) (hG : Glob w) : Calls Tryd.prog 90 #[.string s] w fun e w' => e = .returned (.bool b) ∧ Below w.heap.size w w' := by
  obtain ⟨k, hk⟩ := Ev.rounds (lang18_ev s.data.toList hs)
  rw [data_ofL, hb] at hk
  refine (cubitref18_lang.calls k s b w hk hG).mono ?_
  rintro e w' ⟨rfl, hd⟩
  exact ⟨rfl, drawn_below hd⟩
theorem width18_any (s : ByteArray) (b : Bool) (hb : widthB s.data.toList = b) (w : World) (hG : Glob w) : Calls Tryd.prog 91 #[.string s] w fun e w' => e = .returned (.bool b) ∧ Below w.heap.size w w' := by
  have hk := width18_f s.data.toList
  rw [data_ofL, hb] at hk
  refine (cubitref18_Width.calls s b w hk hG).mono ?_
  rintro e w' ⟨rfl, h⟩
  exact ⟨rfl, by first | exact drawn_below h | exact h | (subst h; exact Below.refl _ _)⟩
theorem times18_any (s x : ByteArray) (c : UInt8) (hc : c ≠ 123) (hx : x = ofL [123, c, 125]) (n : Nat) (hn : Lib.count s.data.toList [123, c, 125] = n) (hs : s.size ≤ 100000) (w : World) (hG : Glob w) : Calls Tryd.prog 92 #[.string s, .string x] w fun e w' => e = .returned (.int .i64 (n : Int)) ∧ Below w.heap.size w w' := by
  subst hx
  obtain ⟨k, hk⟩ := Ev.rounds (times_ev c hc s.data.toList hs)
  rw [data_ofL, hn] at hk
  refine (cubitref18_times.calls k s (ofL [123, c, 125]) (n : Int) w hk hG).mono ?_
  rintro e w' ⟨rfl, hd⟩
  exact ⟨rfl, drawn_below hd⟩
theorem blank18_any (s x : ByteArray) (hx : ofL (blankP s.data.toList) = x) (hs : s.size ≤ 100000) (w : World) (hG : Glob w) : Calls Tryd.prog 27 #[.string s] w fun e w' => e = .returned (.string x) ∧ Below w.heap.size w w' := by
  have hk := refBlank_f s.data.toList (by have : s.data.toList.length = s.size := rfl; omega)
  rw [data_ofL] at hk
  exact cubitref6_Blank.calls s x w (by rw [hk, ← hx]; rfl) hG
theorem fill18_any (t : ByteArray) (tb : Bs) (ht : t = ofL tb) (nl : Nat) (a : List Bs) (hn : nl = a.length) (A : Option Addr) (c : Nat) (r : Bs) (hr : fillP a tb = r) (h1 : tb.length ≤ 100000) (h2 : a.length ≤ 100) (h3 : r.length < 9000000000000000000) (w : World) (hC : Kd.C Kd.string w A nl (a.map ofL)) (hc : nl ≤ c) (hG : Glob w) :
    Calls Tryd.prog 93 #[.string t, .slice A nl c] w fun e w' => e = .returned (.string (ofL r)) ∧ Below w.heap.size w w' := by
  subst ht
  subst hr
  obtain ⟨k, hk⟩ := Ev.rounds (fill18_ev a tb h1 h2 h3)
  have e : nl = (a.map ofL).length := by rw [List.length_map, hn]
  subst e
  refine (cubitref18_Fill.calls k (ofL tb) A c (a.map ofL) _ w hC hc hk hG).mono ?_
  rintro e w' ⟨rfl, hd⟩
  exact ⟨rfl, drawn_below hd⟩
theorem widths18_any (s : ByteArray) (w : World) (hG : Glob w) : Calls Tryd.prog 94 #[.string s] w fun e w' => (∃ A c, e = .returned (.slice A (widthsB s.data.toList).length c) ∧ (widthsB s.data.toList).length ≤ c ∧ Kd.C Kd.string w' A (widthsB s.data.toList).length ((widthsB s.data.toList).map ofL)) ∧ Below w.heap.size w w' := by
  have hk := widths18_f s.data.toList
  rw [data_ofL] at hk
  refine (cubitref18_Widths.calls s _ w hk hG).mono ?_
  rintro e w' ⟨v, rfl, hR, hb⟩
  obtain ⟨A, c, rfl, hc, hC⟩ := Kd.R_reads hR
  rw [List.length_map] at hc hC
  exact ⟨⟨A, c, by rw [List.length_map], hc, hC⟩, hb⟩
end Go.Proofs.YthefdpioaapomaaDoor.Pj
