/- The statement AtomKnown, walked by hand: what each of its calls answers is laid ahead, so that it answers true. -/
import Derived.Test.YthefdpioaapomaaDoorLs9
import Derived.WalkSpells
import Derived.WalkLawsBesides
import Derived.Test.YthefdpioaapomaaDoorPC5
import Derived.Test.YthefdpioaapomaaDoorPC6
namespace Go.Proofs.YthefdpioaapomaaDoor.Kn9
set_option linter.unusedVariables false
set_option linter.unusedSimpArgs false
open Go.RowKit Go.Proofs.YthefdpioaapomaaDoorW.PrintWords Go.Proofs.YthefdpioaapomaaDoorW.PrintLast Go.Proofs.YthefdpioaapomaaDoor.Ext Go.Proofs.YthefdpioaapomaaDoorW.PrintMore Go.Proofs.YthefdpioaapomaaDoor.PC Go.Proofs.YthefdpioaapomaaDoor.Pl Go.Proofs.YthefdpioaapomaaDoor.Pu9

/-- A row of strings that has just been laid. -/
theorem litC (w : World) (xs : List ByteArray) (hm : xs.length ≤ 9223372036854775807) : Kd.C Kd.string (w.alloc (.cells (xs.map Value.string).toArray 9)) (some ⟨w.heap.size, 0, none⟩) xs.length xs :=
  (Kd.R_reads' (newStrs w 0 (Nat.zero_le _) xs hm)).2.2
theorem litZ (w : World) (z : Nat) (hz : w.heap.size = z) (xs : List ByteArray) (hm : xs.length ≤ 9223372036854775807) : Kd.C Kd.string (w.alloc (.cells (xs.map Value.string).toArray 9)) (some ⟨z, 0, none⟩) xs.length xs := by
  subst hz
  exact litC w xs hm
/-- A row of rows that has just been laid. -/
theorem rowsC (w : World) (rows : List (List ByteArray)) (vs : List Value) (hm : rows.length ≤ 9223372036854775807) (hl : vs.length = rows.length)
    (h : ∀ (j : Nat) r v, rows[j]? = some r → vs[j]? = some v → ∃ A c, v = .slice A r.length c ∧ r.length ≤ c ∧ Kd.C Kd.string w A r.length r) :
    Kd.C (Kd.slice 9 Kd.string) (w.alloc (.cells vs.toArray 29)) (some ⟨w.heap.size, 0, none⟩) rows.length rows := by
  refine ⟨rfl, hm, fun _ => ⟨⟨w.heap.size, 0, none⟩, rfl, fun j r hr => ?_⟩⟩
  have hj : j < rows.length := (List.getElem?_eq_some_iff.1 hr).1
  have hv : vs[j]? = some vs[j] := List.getElem?_eq_getElem (by omega)
  obtain ⟨A, c, e, hc, hC⟩ := h j r _ hr hv
  refine ⟨[vs[j]], rfl, ⟨A, c, by rw [e], hc, Kd.C_below hC (below_alloc (Below.refl _ _) _)⟩, fun i v hi => ?_⟩
  cases i with
  | zero =>
    obtain rfl := Option.some.inj hi
    rw [add_plain, show (Kd.slice 9 Kd.string).sz = 1 from rfl, Nat.mul_one, Nat.add_zero]
    rw [blk_cell (blk_new w _) j]
    simp
  | succ i => simp at hi
theorem rowAt {w : World} {A : Option Addr} {n : Nat} {rows : List (List ByteArray)} (h : Kd.C (Kd.slice 9 Kd.string) w A n rows) {j : Nat} (hj : j < rows.length) :
    ∃ ad A0 c0, A = some ad ∧ w.cell? (ad.add j) = some (.slice A0 rows[j].length c0) ∧ rows[j].length ≤ c0 ∧ Kd.C Kd.string w A0 rows[j].length rows[j] := by
  obtain ⟨ad, c, e, _, hK, hc0⟩ := Kd.C_get h ([] : List ByteArray) (j : Int) (by omega) (by have := h.1; omega)
  have hc : ∀ i u, c[i]? = some u → w.cell? (ad.add (j * 1 + i)) = some u := hc0
  have he : rows.getD ((j : Int).toNat) [] = rows[j] := by rw [Int.toNat_natCast, List.getD_eq_getElem?_getD, List.getElem?_eq_getElem hj]; rfl
  rw [he] at hK
  obtain ⟨A0, c0, rfl, l0, g0⟩ := hK
  exact ⟨ad, A0, c0, e, by have hq := hc 0 _ rfl; rwa [Nat.mul_one, Nat.add_zero] at hq, l0, g0⟩

/-- Some's answer, told in one word. -/
def SomeAt (w : World) (v : Value) : Prop := ∃ A0 c0 A1 c1, v = .agg #[.slice A0 3 c0, .slice A1 3 c1] ∧ 3 ≤ c0 ∧ 3 ≤ c1 ∧ Kd.C Kd.string w A0 3 (sNames.map ofL) ∧ Kd.C Kd.string w A1 3 (sPrefs.map ofL)
theorem some_any (w : World) (hG : Glob w) : Calls Tryd.prog 42 #[] w fun e w' => ∃ v, e = .returned v ∧ SomeAt w' v ∧ Below w.heap.size w w' := by
  refine (cubitlaw9_some.calls _ _ w some_f hG).mono ?_
  rintro e w' ⟨v0, v1, rfl, h0, h1, hb⟩
  obtain ⟨A0, c0, rfl, l0, hC0⟩ := Kd.R_reads h0
  obtain ⟨A1, c1, rfl, l1, hC1⟩ := Kd.R_reads h1
  exact ⟨_, rfl, ⟨A0, c0, A1, c1, rfl, l0, l1, hC0, hC1⟩, hb⟩
theorem SomeAt.below {w w' : World} {v : Value} (h : SomeAt w v) (hb : Below w.heap.size w w') : SomeAt w' v := by
  obtain ⟨A0, c0, A1, c1, e, l0, l1, hC0, hC1⟩ := h
  exact ⟨A0, c0, A1, c1, e, l0, l1, Kd.C_below hC0 hb, Kd.C_below hC1 hb⟩
theorem parse_any (w : World) (hG : Glob w) (v : Value) (hv : SomeAt w v) (A : Option Addr) (n c : Nat) (l : List Bs) (hn : l.length = n) (hc : n ≤ c) (hl : Kd.C Kd.string w A n (l.map ofL)) (p q : Bs) (x y : Int) (b : Bool) (h : parseA sNames sPrefs l = (p, q, x, y, b)) :
    Calls Tryd.prog 41 #[v, .slice A n c] w fun e w' => e = .returned (.tuple #[.agg #[.string (ofL p), .string (ofL q), .int .i64 x], .int .i64 y, .bool b]) ∧ Below w.heap.size w w' := by
  obtain ⟨A0, c0, A1, c1, rfl, l0, l1, hC0, hC1⟩ := hv
  subst hn
  obtain ⟨k, hk⟩ := Ev.rounds (parse_ev sNames sPrefs l (by decide))
  rw [h] at hk
  have hlen : (l.map ofL).length = l.length := List.length_map _
  have := atom_Parse.calls k A0 c0 (sNames.map ofL) A1 c1 (sPrefs.map ofL) A c (l.map ofL) _ _ _ _ _ w hC0 l0 hC1 l1 (by rw [hlen]; exact hl) (by rw [hlen]; exact hc) hk hG
  rw [hlen] at this
  exact this
def wMeter : Bs := [109, 101, 116, 101, 114]
def wSquare : Bs := [115, 113, 117, 97, 114, 101]
def badL : List (List Bs) := [[], [wSquare], [[112, 111, 119, 50], wMeter], [[112, 111, 119, 48, 52], wMeter], [[112, 111, 119, 49, 54], wMeter], [[107, 105, 108, 111]], [wSquare, [99, 117, 98, 105, 99], wMeter], [[109, 101, 116, 101, 114, 115]]]
theorem bad_none : ∀ l ∈ badL, (parseA sNames sPrefs l).2.2 = (0, 0, false) := by decide
def badN : List Bs := [[112, 101, 114], [97, 110, 100], [115, 113, 117, 97, 114, 101], [99, 117, 98, 105, 99], [49, 50], [112, 111, 119, 55], [97, 45, 98], [65], []]
theorem badN_no : ∀ s ∈ badN, mayB s = false := by decide
theorem badN_short : ∀ s ∈ badN, s.length ≤ 100 := by decide
theorem good_any (w : World) (hG : Glob w) (A0 A1 : Option Addr) (n0 c0 n1 c1 : Nat) (l m : List Bs) (hn0 : l.length = n0) (hn1 : m.length = n1) (hc0 : n0 ≤ c0) (hc1 : n1 ≤ c1) (h0 : Kd.C Kd.string w A0 n0 (l.map ofL)) (h1 : Kd.C Kd.string w A1 n1 (m.map ofL))
    (hl : ∀ s ∈ l, s.length ≤ maxLen) (hm : ∀ s ∈ m, s.length ≤ maxLen) (b : Bool) (hb : (rowB l [] && rowB m []) = b) :
    Calls Tryd.prog 43 #[.agg #[.slice A0 n0 c0, .slice A1 n1 c1]] w fun e w' => e = .returned (.bool b) ∧ Below w.heap.size w w' := by
  subst hn0
  subst hn1
  subst hb
  have e0 : (l.map ofL).length = l.length := List.length_map _
  have e1 : (m.map ofL).length = m.length := List.length_map _
  have := atom_Good.calls A0 c0 (l.map ofL) A1 c1 (m.map ofL) _ w (by rw [e0]; exact h0) (by rw [e0]; exact hc0) (by rw [e1]; exact h1) (by rw [e1]; exact hc1) (Good_f l m hl hm) hG
  rw [e0, e1] at this
  exact this
theorem show_any (w : World) (hG : Glob w) (p q : ByteArray) (x : Int) (r : Bs) (hs : p.size + q.size ≤ 1000) (h : showA p.data.toList q.data.toList x = r) :
    Calls Tryd.prog 44 #[.agg #[.string p, .string q, .int .i64 x]] w fun e w' => e = .returned (.string (ofL r)) ∧ Below w.heap.size w w' := by
  subst h
  obtain ⟨k, hk⟩ := Ev.rounds (show_ev p.data.toList q.data.toList x (by rw [← Lib.size_eq, ← Lib.size_eq]; omega))
  rw [data_ofL, data_ofL] at hk
  exact atom_Show.calls k p q x _ w hk hG
theorem less_any (w : World) (hG : Glob w) (a b : A3) (r : Bool) (h : decide (lessC a b < 0) = r) :
    Calls Tryd.prog 45 #[.agg #[.string a.p, .string a.n, .int .i64 a.w], .agg #[.string b.p, .string b.n, .int .i64 b.w]] w fun e w' => e = .returned (.bool r) ∧ Below w.heap.size w w' := by
  subst h
  obtain ⟨k, hk⟩ := Ev.rounds (less_ev a b)
  exact atom_Less.calls k _ _ _ _ _ _ _ w hk hG
theorem k_a : parseA sNames sPrefs [[107, 105, 108, 111, 103, 114, 97, 109]] = ([107, 105, 108, 111], [103, 114, 97, 109], 1, 1, true) := by rfl
theorem k_b : parseA sNames sPrefs [[112, 111, 119, 49, 53, 45, 109, 101, 116, 101, 114]] = ([], [], 0, 0, false) := by rfl
theorem k_c : parseA sNames sPrefs [[112, 111, 119, 49, 53], wMeter] = ([], wMeter, 15, 2, true) := by rfl
end Go.Proofs.YthefdpioaapomaaDoor.Kn9
