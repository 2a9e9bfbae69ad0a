/- What the walked texts of layer 9 come to: powers, prefixes and names, an atom that is read and shown, the order. No memory in sight. -/
import Derived.Test.YthefdpioaapomaaDoorPl
import Derived.Test.YthefdpioaapomaaDoorExtA
import Derived.Test.YthefdpioaapomaaDoorExtI
import Derived.Test.YthefdpioaapomaaDoorExtR
import Derived.Sort.Walk0
import Derived.Lib.SlTrimSet
import Derived.Test.YthefdpioaapomaaDoorPM1
import Derived.Test.YthefdpioaapomaaDoorPC3
import Derived.Test.YthefdpioaapomaaDoorPC5
import Derived.Test.YthefdpioaapomaaDoorPC6
namespace Go.Proofs.YthefdpioaapomaaDoor.Pu9
set_option linter.unusedVariables false
set_option linter.unusedSimpArgs false
open Go.RowKit Go.Proofs.YthefdpioaapomaaDoorW.PrintWords Go.Proofs.YthefdpioaapomaaDoorW.PrintLast Go.Proofs.YthefdpioaapomaaDoor.Ext Go.Proofs.YthefdpioaapomaaDoorW.PrintMore Go.Proofs.YthefdpioaapomaaDoor.PC Go.Proofs.YthefdpioaapomaaDoor.Pl

theorem wrap_nat {i : Nat} (h : i < 4611686018427387904) : wrap64 ((i : Int) + 1) = ((i + 1 : Nat) : Int) := by unfold wrap64; omega
theorem rd_map (xs : List Bs) {i : Nat} (h : i < xs.length) : rdOf ByteArray.empty (xs.map ofL) (i : Int) = ofL xs[i] := by simp [rdOf, h]
theorem ofL_nil_iff (l : Bs) : ((ofL l).toList = ([] : List UInt8)) ↔ l = [] := by rw [ofL_toList]
theorem ofL_append (a b : Bs) : ofL a ++ ofL b = ofL (a ++ b) := by
  apply ByteArray.ext
  rw [ByteArray.data_append]
  simp [ofL]

/-! Powers -/
def decP (n : Nat) : Bs := if n < 10 then [UInt8.ofNat (48 + n)] else [49, UInt8.ofNat (38 + n)]
theorem dec_eq {n : Nat} (h : n ≤ 19) : Lib.decDigits n = decP n := by
  unfold Lib.decDigits decP
  by_cases h1 : n < 10
  · rw [dif_pos h1, if_pos h1]
  · rw [dif_neg h1, if_neg h1]
    have e1 : n / 10 = 1 := by omega
    have e2 : 48 + n % 10 = 38 + n := by omega
    rw [e1, e2]
    unfold Lib.decDigits
    rw [dif_pos (by decide)]
    rfl
theorem itoa_f {n : Nat} (h : n ≤ 19) : strconv_Itoa.f (n : Int) = some (ofL (decP n)) := by
  unfold strconv_Itoa.f
  rw [if_pos (by omega), if_pos (by omega), Int.toNat_natCast, dec_eq h]
  rfl
theorem decP_len (n : Nat) : (decP n).length ≤ 2 := by unfold decP; split <;> simp
def pow : Bs := [112, 111, 119]
def powGo (s : Bs) : Nat → Nat → Nat
  | 0, _ => 1
  | d + 1, n => if s = pow ++ decP n then n else powGo s d (n + 1)
def powP (s : Bs) : Nat := if s = [115, 113, 117, 97, 114, 101] then 2 else if s = [99, 117, 98, 105, 99] then 3 else powGo s 12 4
theorem powGo_range (s : Bs) : ∀ d n, 1 ≤ n → n + d = 16 → 1 ≤ powGo s d n ∧ powGo s d n ≤ 15
  | 0, n, _, h => ⟨Nat.le_refl 1, show 1 ≤ 15 by decide⟩
  | d + 1, n, h1, h => by
    unfold powGo
    split
    · omega
    · exact powGo_range s d (n + 1) (by omega) (by omega)
theorem powP_range (s : Bs) : 1 ≤ powP s ∧ powP s ≤ 15 := by
  unfold powP
  split
  · exact ⟨by decide, by decide⟩
  · split
    · exact ⟨by decide, by decide⟩
    · exact powGo_range s 12 4 (by decide) rfl
theorem pow_loop (s : Bs) : ∀ (d n : Nat), n + d = 16 → Ev (fun k => atom_power.l0 k (ofL s) (n : Int)) ((powGo s d n : Nat) : Int)
  | 0, n, h => by
    refine Ev.step (f := fun _ => some 1) (fun k => ?_) (Ev.now _)
    simp only [atom_power.l0]
    rw [if_neg (by omega)]
  | d + 1, n, h => by
    have hl := decP_len n
    have e0 : (⟨#[112, 111, 119]⟩ : ByteArray) ++ ofL (decP n) = ofL (pow ++ decP n) := by
      rw [← ofL_append]; rfl
    by_cases he : s = pow ++ decP n
    · refine Ev.step (f := fun _ => some ((powGo s (d + 1) n : Nat) : Int)) (fun k => ?_) (Ev.now _)
      simp only [atom_power.l0]
      rw [if_pos (by omega), itoa_f (by omega), Option.bind_some, if_pos (by rw [ofL_size]; omega), e0, if_pos (by rw [ofL_toList, ofL_toList]; exact he), powGo, if_pos he]
    · have ih := pow_loop s d (n + 1) (by omega)
      have e1 : powGo s (d + 1) n = powGo s d (n + 1) := by rw [powGo, if_neg he]
      rw [e1]
      refine Ev.step (fun k => ?_) ih
      simp only [atom_power.l0]
      rw [if_pos (by omega), itoa_f (by omega), Option.bind_some, if_pos (by rw [ofL_size]; omega), e0, if_neg (by rw [ofL_toList, ofL_toList]; exact he), wrap_nat (by omega)]
theorem pow_ev (s : Bs) : Ev (fun k => atom_power.f k (ofL s)) ((powP s : Nat) : Int) := by
  unfold powP
  by_cases h1 : s = [115, 113, 117, 97, 114, 101]
  · rw [if_pos h1]
    refine Ev.congr (fun k => ?_) (Ev.now _)
    unfold atom_power.f
    rw [if_pos (by rw [ofL_toList]; exact h1)]
    rfl
  · rw [if_neg h1]
    by_cases h2 : s = [99, 117, 98, 105, 99]
    · rw [if_pos h2]
      refine Ev.congr (fun k => ?_) (Ev.now _)
      unfold atom_power.f
      rw [if_neg (by rw [ofL_toList]; exact h1), if_pos (by rw [ofL_toList]; exact h2)]
      rfl
    · rw [if_neg h2]
      refine Ev.congr (fun k => ?_) (pow_loop s 12 4 rfl)
      unfold atom_power.f
      rw [if_neg (by rw [ofL_toList]; exact h1), if_neg (by rw [ofL_toList]; exact h2)]
      rfl

/-! Names -/
theorem contains_f (ns : List Bs) (s : Bs) : slices_Contains.f (ns.map ofL) (ofL s) = some (ns.contains s) := by
  unfold slices_Contains.f
  congr 1
  rw [Bool.eq_iff_iff, Lib.containsS_iff, List.contains_iff_mem]
  constructor
  · intro h
    obtain ⟨x, hx, e⟩ := List.mem_map.1 h
    rw [← ofL_inj e]; exact hx
  · intro h
    exact List.mem_map_of_mem h
theorem cutPrefix_f (a p : Bs) : strings_CutPrefix.f (ofL a) (ofL p) = some (ofL (if p.isPrefixOf a = true then a.drop p.length else a), p.isPrefixOf a) := by
  unfold strings_CutPrefix.f
  rw [ofL_data, ofL_data]
  rfl
structure At where
  pre : Bs
  name : Bs
  power : Int
def nameGo (names : List Bs) (s : Bs) : List Bs → Bool → Bs → Bs → Bs × Bs × Bool
  | [], ok, bp, bn => (bp, bn, ok)
  | p :: ps, ok, bp, bn => if (p.isPrefixOf s && names.contains (s.drop p.length) && (!ok || decide (bp.length < p.length))) = true then nameGo names s ps true p (s.drop p.length) else nameGo names s ps ok bp bn
def nameA (names prefs : List Bs) (s : Bs) : Bs × Bs × Bool := if names.contains s = true then ([], s, true) else nameGo names s prefs false [] []
def r4 (x : Bs × Bs × Bool) : ByteArray × ByteArray × Int × Bool := (ofL x.1, ofL x.2.1, 0, x.2.2)
theorem name_loop (names prefs : List Bs) (s : Bs) (hp : prefs.length < 1000000000) : ∀ (d i : Nat) (ok : Bool) (bp bn : Bs), i + d = prefs.length →
    Ev (fun k => atom_name.l0 k (ofL s) ok (prefs.map ofL) (prefs.length : Int) (i : Int) (names.map ofL) (prefs.map ofL) (ofL bp) (ofL bn) 0) (r4 (nameGo names s (prefs.drop i) ok bp bn))
  | 0, i, ok, bp, bn, hd => by
    rw [List.drop_of_length_le (by omega)]
    refine Ev.step (f := fun _ => some (r4 (nameGo names s [] ok bp bn))) (fun k => ?_) (Ev.now _)
    simp only [atom_name.l0]
    rw [if_neg (by omega)]
    rfl
  | d + 1, i, ok, bp, bn, hd => by
    have hi : i < prefs.length := by omega
    have hr := rd_map prefs hi
    rw [List.drop_eq_getElem_cons hi]
    generalize hpi : prefs[i] = p at hr
    have hj : ∀ (c : Bool) (q : ByteArray) (z : ByteArray) (r : ByteArray × ByteArray × Int × Bool), (c = true → Ev (fun k => atom_name.l0 k (ofL s) true (prefs.map ofL) (prefs.length : Int) ((i + 1 : Nat) : Int) (names.map ofL) (prefs.map ofL) q z 0) r) → (c = false → Ev (fun k => atom_name.l0 k (ofL s) ok (prefs.map ofL) (prefs.length : Int) ((i + 1 : Nat) : Int) (names.map ofL) (prefs.map ofL) (ofL bp) (ofL bn) 0) r) →
        Ev (fun k => atom_name.j1 k (ofL s) ok q z (prefs.map ofL) (prefs.length : Int) (i : Int) c (names.map ofL) (prefs.map ofL) (ofL bp) (ofL bn) 0) r := by
      intro c q z r h1 h2
      cases c with
      | true =>
        refine Ev.step (fun k => ?_) (h1 rfl)
        simp only [atom_name.j1]
        rw [if_pos trivial, wrap_nat (by omega)]
      | false =>
        refine Ev.step (fun k => ?_) (h2 rfl)
        simp only [atom_name.j1]
        rw [if_neg (by decide), wrap_nat (by omega)]
    have yes := name_loop names prefs s hp d (i + 1) true p (s.drop p.length) (by omega)
    have no := name_loop names prefs s hp d (i + 1) ok bp bn (by omega)
    rw [nameGo]
    have open0 : ∀ (c : Bool) (z : ByteArray) (r : ByteArray × ByteArray × Int × Bool), (∀ k, atom_name.l0 (k + 1) (ofL s) ok (prefs.map ofL) (prefs.length : Int) (i : Int) (names.map ofL) (prefs.map ofL) (ofL bp) (ofL bn) 0 = atom_name.j1 k (ofL s) ok (ofL p) z (prefs.map ofL) (prefs.length : Int) (i : Int) c (names.map ofL) (prefs.map ofL) (ofL bp) (ofL bn) 0) →
        Ev (fun k => atom_name.j1 k (ofL s) ok (ofL p) z (prefs.map ofL) (prefs.length : Int) (i : Int) c (names.map ofL) (prefs.map ofL) (ofL bp) (ofL bn) 0) r → Ev (fun k => atom_name.l0 k (ofL s) ok (prefs.map ofL) (prefs.length : Int) (i : Int) (names.map ofL) (prefs.map ofL) (ofL bp) (ofL bn) 0) r := fun c z r h1 h2 => Ev.step h1 h2
    cases hpre : p.isPrefixOf s with
    | false =>
      refine open0 false (ofL s) _ (fun k => ?_) (hj _ _ _ _ (fun h => by cases h) (fun _ => by simpa using no))
      simp only [atom_name.l0]
      rw [if_pos (by omega), if_pos (by omega), if_pos (by rw [List.length_map]; omega), hr, cutPrefix_f, Option.bind_some, hpre, if_neg Bool.false_ne_true, if_neg Bool.false_ne_true]
    | true =>
      cases hc : names.contains (s.drop p.length) with
      | false =>
        refine open0 false (ofL (s.drop p.length)) _ (fun k => ?_) (hj _ _ _ _ (fun h => by cases h) (fun _ => by simpa using no))
        simp only [atom_name.l0]
        rw [if_pos (by omega), if_pos (by omega), if_pos (by rw [List.length_map]; omega), hr, cutPrefix_f, Option.bind_some, hpre, if_pos rfl, if_pos rfl, contains_f, Option.bind_some, hc, if_neg (by decide)]
      | true =>
        cases hok : ok with
        | false =>
          subst hok
          refine open0 true (ofL (s.drop p.length)) _ (fun k => ?_) (hj _ _ _ _ (fun _ => by simpa using yes) (fun h => by cases h))
          simp only [atom_name.l0]
          rw [if_pos (by omega), if_pos (by omega), if_pos (by rw [List.length_map]; omega), hr, cutPrefix_f, Option.bind_some, hpre, if_pos rfl, if_pos rfl, contains_f, Option.bind_some, hc, if_pos rfl, if_neg (by decide)]
        | true =>
          subst hok
          refine open0 (decide (bp.length < p.length)) (ofL (s.drop p.length)) _ (fun k => ?_) (hj _ _ _ _ (fun h => by rw [h]; simpa using yes) (fun h => by rw [h]; simpa using no))
          simp only [atom_name.l0]
          rw [if_pos (by omega), if_pos (by omega), if_pos (by rw [List.length_map]; omega), hr, cutPrefix_f, Option.bind_some, hpre, if_pos rfl, if_pos rfl, contains_f, Option.bind_some, hc, if_pos rfl, if_pos trivial]
          congr 1
          rw [Bool.eq_iff_iff, decide_eq_true_eq, decide_eq_true_eq, ofL_size, ofL_size]
          omega
theorem name_ev (names prefs : List Bs) (s : Bs) (hp : prefs.length < 1000000000) : Ev (fun k => atom_name.f k (names.map ofL) (prefs.map ofL) (ofL s)) (r4 (nameA names prefs s)) := by
  unfold nameA
  cases hc : names.contains s with
  | true =>
    rw [if_pos rfl]
    refine Ev.congr (fun k => ?_) (Ev.now _)
    unfold atom_name.f
    rw [contains_f, Option.bind_some, hc, if_pos rfl]
    rfl
  | false =>
    rw [if_neg (by decide)]
    refine Ev.congr (fun k => ?_) (name_loop names prefs s hp prefs.length 0 false [] [] (by omega))
    unfold atom_name.f
    rw [contains_f, Option.bind_some, hc, if_neg (by decide), List.length_map]
    rfl

/-! An atom that is read -/
def none5 : Bs × Bs × Int × Int × Bool := ([], [], 0, 0, false)
def parseA (names prefs ls : List Bs) : Bs × Bs × Int × Int × Bool :=
  match ls with
  | [] => none5
  | w :: _ =>
    let p := powP w
    let at_ : Nat := if p = 1 then 0 else 1
    match ls[at_]? with
    | none => none5
    | some x => if (nameA names prefs x).2.2 = true then ((nameA names prefs x).1, (nameA names prefs x).2.1, (p : Int), (at_ : Int) + 1, true) else none5
def r5 (x : Bs × Bs × Int × Int × Bool) : ByteArray × ByteArray × Int × Int × Bool := (ofL x.1, ofL x.2.1, x.2.2)
theorem parse_ev (names prefs ls : List Bs) (hp : prefs.length < 1000000000) : Ev (fun k => atom_Parse.f k (names.map ofL) (prefs.map ofL) (ls.map ofL)) (r5 (parseA names prefs ls)) := by
  cases ls with
  | nil => exact Ev.congr (fun k => by unfold atom_Parse.f; rw [if_pos (show ((([] : List Bs).map ofL).length : Int) = 0 from rfl)]; rfl) (Ev.now _)
  | cons w ls =>
    obtain ⟨q1, q2⟩ := powP_range w
    have pw := pow_ev w
    unfold parseA
    simp only
    generalize hq : powP w = q at q1 q2 pw
    have hmn : mn (wrap64 ((q : Int) - 1)) 1 = (((if q = 1 then 0 else 1) : Nat) : Int) := by
      unfold mn wrap64
      split <;> split <;> omega
    generalize hat : (if q = 1 then 0 else 1 : Nat) = at_ at hmn
    have hat2 : at_ ≤ 1 := by rw [← hat]; split <;> omega
    have e0 : ∀ k, atom_Parse.f k (names.map ofL) (prefs.map ofL) ((w :: ls).map ofL) = (atom_power.f k (ofL w)).bind fun t113 => (if (mn (wrap64 (t113 - 1)) 1) ≥ (((w :: ls).map ofL).length : Int) then (some ((⟨#[]⟩ : ByteArray), (⟨#[]⟩ : ByteArray), 0, 0, false)) else (if 0 ≤ (mn (wrap64 (t113 - 1)) 1) then (if (mn (wrap64 (t113 - 1)) 1) < (((w :: ls).map ofL).length : Int) then ((atom_name.f k (names.map ofL) (prefs.map ofL) (rdOf ByteArray.empty ((w :: ls).map ofL) (mn (wrap64 (t113 - 1)) 1))).bind fun bt115 => (if bt115.2.2.2 = true then (some (bt115.1, bt115.2.1, t113, wrap64 ((mn (wrap64 (t113 - 1)) 1) + 1), true)) else (some ((⟨#[]⟩ : ByteArray), (⟨#[]⟩ : ByteArray), 0, 0, false)))) else (none)) else (none))) := by
      intro k
      unfold atom_Parse.f
      rw [if_neg (by rw [List.length_map, List.length_cons]; omega), if_pos (by rw [List.length_map, List.length_cons]; omega)]
      rfl
    refine Ev.congr e0 ?_
    refine Ev.bind pw ?_
    simp only [hmn]
    by_cases hlt : at_ < (w :: ls).length
    · rw [List.getElem?_eq_getElem hlt]
      have nm := name_ev names prefs (w :: ls)[at_] hp
      have hrd := rd_map (w :: ls) hlt
      simp only
      generalize hx : (w :: ls)[at_] = x at nm hrd
      have e1 : ∀ k, (if ((at_ : Nat) : Int) ≥ (((w :: ls).map ofL).length : Int) then (some ((⟨#[]⟩ : ByteArray), (⟨#[]⟩ : ByteArray), (0 : Int), (0 : Int), false)) else (if 0 ≤ ((at_ : Nat) : Int) then (if ((at_ : Nat) : Int) < (((w :: ls).map ofL).length : Int) then ((atom_name.f k (names.map ofL) (prefs.map ofL) (rdOf ByteArray.empty ((w :: ls).map ofL) ((at_ : Nat) : Int))).bind fun bt115 => (if bt115.2.2.2 = true then (some (bt115.1, bt115.2.1, (q : Int), wrap64 (((at_ : Nat) : Int) + 1), true)) else (some ((⟨#[]⟩ : ByteArray), (⟨#[]⟩ : ByteArray), 0, 0, false)))) else (none)) else (none))) = (atom_name.f k (names.map ofL) (prefs.map ofL) (ofL x)).bind fun bt115 => (if bt115.2.2.2 = true then (some (bt115.1, bt115.2.1, (q : Int), wrap64 (((at_ : Nat) : Int) + 1), true)) else (some ((⟨#[]⟩ : ByteArray), (⟨#[]⟩ : ByteArray), 0, 0, false))) := by
        intro k
        rw [if_neg (by rw [List.length_map]; omega), if_pos (by omega), if_pos (by rw [List.length_map]; omega), hrd]
      refine Ev.congr e1 ?_
      refine Ev.bind nm ?_
      generalize nameA names prefs x = y
      obtain ⟨y1, y2, y3⟩ := y
      cases y3 with
      | true =>
        refine Ev.congr (fun k => ?_) (Ev.now _)
        simp only [r4, if_true, r5]
        rw [wrap_nat (by omega)]
        rfl
      | false => exact Ev.now _
    · rw [List.getElem?_eq_none (by omega)]
      refine Ev.congr (fun k => ?_) (Ev.now _)
      rw [if_pos (by rw [List.length_map]; omega)]
      rfl
end Go.Proofs.YthefdpioaapomaaDoor.Pu9
