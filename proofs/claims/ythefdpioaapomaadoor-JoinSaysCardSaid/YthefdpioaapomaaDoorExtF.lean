/- pattern.Fill, walked by hand: texts in the place of signs. -/
import Derived.Test.YthefdpioaapomaaDoorExtW
import Derived.Test.YthefdpioaapomaaDoorWN
namespace Go.Proofs.YthefdpioaapomaaDoor.Ext
set_option linter.unusedVariables false
set_option linter.unusedSimpArgs false
open Go.RowKit Go.Proofs.YthefdpioaapomaaDoorW.PrintWords Go.Proofs.YthefdpioaapomaaDoorW.PrintLast Go.Proofs.YthefdpioaapomaaDoorW.PrintMore
attribute [local go_sem] max2_int min2_int max_two min_two

/-- The library's numbers, the writer of one byte among them. -/
def renB : Go.Shelf.Ren := { Tryd.lays156_ren with f := fun n => if n = 167 then 117 else Tryd.lays156_ren.f n }
theorem lays167 : Lays.n167 Tryd.prog renB := { Tryd.lays156 with f167 := Tryd.func117.trans (congrArg some (by kernel_rfl)), t5 := Tryd.underlying5, a5 := Tryd.isAgg5, z5 := Tryd.sizeOf5, v5 := Tryd.zeroValue5 }
theorem extraB : Builder.Extra Tryd.prog renB := { sizeBuilder := by kernel_rfl, liesBuilder := by kernel_rfl, t5 := Tryd.underlying5, a5 := Tryd.isAgg5, z5 := Tryd.sizeOf5, v5 := Tryd.zeroValue5, infoByte := by kernel_rfl, cellsByte := by kernel_rfl, sizeByte := by kernel_rfl, neB5 := by decide }
theorem WriteByte (B b : Nat) (bs : List Value) (c : Int) (w : World) (h : Lib.IsBuilderF 94 5 B b bs w) (hlen : bs.length + 1 ≤ 140737488355328) (hBw : B ≤ w.heap.size) :
    Calls Tryd.prog 117 #[.pointer (some ⟨b, 0, none⟩), .int .u8 c] w fun e w' => e = .returned .nilIface ∧ (Lib.IsBuilderF 94 5 B b (bs ++ [.int .u8 c]) w' ∧ Below B w w') := by
  refine (Any.Builder_WriteByte_k lays167 extraB B b bs c w h hlen hBw).mono ?_
  rintro e w' ⟨rfl, h1, h2, _⟩
  exact ⟨rfl, Or.inr h1, h2⟩

/-- The text that a sign at a text's head stands for. -/
def signOf (a : List ByteArray) : List UInt8 → Option ByteArray
  | b0 :: b1 :: b2 :: _ => if b0 = 123 ∧ b2 = 125 ∧ 48 ≤ b1.toNat ∧ b1.toNat ≤ 57 then a[b1.toNat - 48]? else none
  | _ => none
def fillF (a : List ByteArray) : Nat → List UInt8 → List UInt8
  | 0, _ => []
  | _ + 1, [] => []
  | n + 1, b :: l => match signOf a (b :: l) with
    | some x => x.data.toList ++ fillF a n (l.drop 2)
    | none => b :: fillF a n l
theorem fillF_more (a : List ByteArray) : ∀ (n m : Nat) (l : List UInt8), l.length ≤ n → l.length ≤ m → fillF a n l = fillF a m l
  | 0, 0, _, _, _ => rfl
  | 0, m + 1, [], _, _ => rfl
  | 0, m + 1, b :: l, h, _ => by simp at h
  | n + 1, 0, [], _, _ => rfl
  | n + 1, 0, b :: l, _, h => by simp at h
  | n + 1, m + 1, [], _, _ => rfl
  | n + 1, m + 1, b :: l, h1, h2 => by
    simp only [List.length_cons] at h1 h2
    unfold fillF
    cases signOf a (b :: l) with
    | some x => simp only; rw [fillF_more a n m (l.drop 2) (by simp; omega) (by simp; omega)]
    | none => simp only; rw [fillF_more a n m l (by omega) (by omega)]
def fillB (a : List ByteArray) (l : List UInt8) : List UInt8 := fillF a l.length l
theorem fillB_nil (a : List ByteArray) : fillB a [] = [] := rfl
theorem fillB_some {a : List ByteArray} {b : UInt8} {l : List UInt8} {x : ByteArray} (h : signOf a (b :: l) = some x) : fillB a (b :: l) = x.data.toList ++ fillB a (l.drop 2) := by
  unfold fillB
  rw [List.length_cons, fillF, h]
  simp only
  rw [fillF_more a l.length (l.drop 2).length (l.drop 2) (by simp) (Nat.le_refl _)]
theorem fillB_none {a : List ByteArray} {b : UInt8} {l : List UInt8} (h : signOf a (b :: l) = none) : fillB a (b :: l) = b :: fillB a l := by
  unfold fillB
  rw [List.length_cons, fillF, h]
theorem sign_short (a : List ByteArray) {l : List UInt8} (h : l.length < 3) : signOf a l = none := by
  match l, h with
  | [], _ => rfl
  | [_], _ => rfl
  | [_, _], _ => rfl
theorem sign_no (a : List ByteArray) {b0 b1 b2 : UInt8} {l : List UInt8} (h : ¬ (b0 = 123 ∧ b2 = 125 ∧ 48 ≤ b1.toNat ∧ b1.toNat ≤ 57 ∧ b1.toNat - 48 < a.length)) : signOf a (b0 :: b1 :: b2 :: l) = none := by
  show (if b0 = 123 ∧ b2 = 125 ∧ 48 ≤ b1.toNat ∧ b1.toNat ≤ 57 then a[b1.toNat - 48]? else none) = none
  by_cases h1 : b0 = 123 ∧ b2 = 125 ∧ 48 ≤ b1.toNat ∧ b1.toNat ≤ 57
  · rw [if_pos h1]
    exact List.getElem?_eq_none (Nat.not_lt.1 (fun h2 => h ⟨h1.1, h1.2.1, h1.2.2.1, h1.2.2.2, h2⟩))
  · rw [if_neg h1]
theorem sign_yes (a : List ByteArray) {b1 : UInt8} {l : List UInt8} (h1 : 48 ≤ b1.toNat) (h2 : b1.toNat ≤ 57) (h3 : b1.toNat - 48 < a.length) : signOf a (123 :: b1 :: 125 :: l) = some a[b1.toNat - 48] := by
  show (if (123 : UInt8) = 123 ∧ (125 : UInt8) = 125 ∧ 48 ≤ b1.toNat ∧ b1.toNat ≤ 57 then a[b1.toNat - 48]? else none) = _
  rw [if_pos ⟨rfl, rfl, h1, h2⟩, List.getElem?_eq_getElem h3]
def pattern_Fill.f (a0 : ByteArray) (l1 : List ByteArray) : Option ByteArray :=
  if (fillB l1 a0.data.toList).length ≤ 140737488355328 then (if a0.size ≤ 140737488355328 then some ⟨(fillB l1 a0.data.toList).toArray⟩ else none) else none
theorem ex3 (s : ByteArray) {k : Nat} {b0 b1 b2 : UInt8} {l : List UInt8} (h : s.data.toList.drop k = b0 :: b1 :: b2 :: l) : s.extract k (k + 3) = ⟨#[b0, b1, b2]⟩ := by
  apply ByteArray.ext
  apply Array.ext'
  show (s.extract k (k + 3)).data.toList = [b0, b1, b2]
  rw [← Lib.toList_data, Lib.extract_toList, h, Nat.add_sub_cancel_left]
  rfl
set_option maxHeartbeats 2000000 in
set_option maxRecDepth 100000 in
theorem fill_any (s : ByteArray) (A : Option Addr) (c : Nat) (a : List ByteArray) (w : World) (hC : Kd.C Kd.string w A a.length a) (hc : a.length ≤ c) (hs : s.size ≤ 140737488355328) (hr : (fillB a s.data.toList).length ≤ 140737488355328) :
    Calls Tryd.prog 87 #[.string s, .slice A a.length c] w fun e w' => e = .returned (.string ⟨(fillB a s.data.toList).toArray⟩) ∧ Below w.heap.size w w' := by
  have HC := Aside0.mk hC
  have HR := Aside0.mk hr
  have ha : a.length ≤ 9223372036854775807 := hC.2.1
  clear hC hr hc
  go_enter Tryd.func87, Tryd.ntmps87
  go_wp2
  go_loopw [6] (fun i wr => ∃ (k : Nat) (acc : List UInt8), k ≤ s.size ∧ i = .int .i64 k ∧ Aside0 (acc ++ fillB a (s.data.toList.drop k) = fillB a s.data.toList) ∧ Aside0 (Lib.IsBuilderF 94 5 w.heap.size w.heap.size (Lib.byteCells acc) wr) ∧ Aside0 (Below w.heap.size w wr)) (fun i _ => s.size - (intOf i).toNat)
  case atStart => exact ⟨0, [], Nat.zero_le _, rfl, ⟨rfl⟩, ⟨builder_fresh w⟩, ⟨below_alloc (Below.refl _ _) _⟩⟩
  case round =>
    obtain ⟨k, acc, hk, rfl, HS, HI, HB⟩ := hrel
    have hlen : s.data.toList.length = s.size := (Lib.size_eq s).symm
    by_cases hlt : k < s.size
    · have hkb : k < s.data.toList.length := by omega
      obtain ⟨b, hb⟩ : ∃ b, b = s.data.toList[k] := ⟨_, rfl⟩
      have hdk : s.data.toList.drop k = b :: s.data.toList.drop (k + 1) := by rw [hb]; exact List.drop_eq_getElem_cons hkb
      have hbk : s[k] = b := by rw [hb]; rfl
      clear hb
      have hsz := Aside0.mk (below_size HB.out)
      by_cases h3 : k + 3 ≤ s.size
      · obtain ⟨b1, b2, l, hl⟩ : ∃ b1 b2 l, s.data.toList.drop (k + 1) = b1 :: b2 :: l := by
          have hl : 2 ≤ (s.data.toList.drop (k + 1)).length := by rw [List.length_drop]; omega
          match h : s.data.toList.drop (k + 1), hl with
          | b1 :: b2 :: l, _ => exact ⟨b1, b2, l, rfl⟩
        obtain ⟨b0, hb0⟩ : ∃ b0, b0 = b := ⟨_, rfl⟩
        have hex := ex3 s (show s.data.toList.drop k = b0 :: b1 :: b2 :: l by rw [hdk, hl, hb0])
        have hb1 : b1.toNat < 256 := b1.toNat_lt
        obtain ⟨E, hEd⟩ : ∃ E, E = (⟨#[b0, b1, b2]⟩ : ByteArray) := ⟨_, rfl⟩
        rw [← hEd] at hex
        have e3 : E.size = 3 := by rw [hEd]; rfl
        have p0 : 0 < E.size := by omega
        have p1 : 1 < E.size := by omega
        have p2 : 2 < E.size := by omega
        have e0 : E[0]'p0 = b0 := by subst hEd; rfl
        have e1 : E[1]'p1 = b1 := by subst hEd; rfl
        have e2 : E[2]'p2 = b2 := by subst hEd; rfl
        clear hEd
        have Hl := Aside0.mk hl
        have Hdk := Aside0.mk hdk
        have Hb0 := Aside0.mk hb0
        have hk3 : ¬ ((s.size : Int) < (k : Int) + 3) := by omega
        clear hl hdk hb0 hlen
        by_cases h0 : b0 = 123
        case neg =>
          have fh0 : ((b0.toNat : Int) == 123) = false := beq_eq_false_iff_ne.2 (fun e => h0 (UInt8.toNat_inj.1 (by show b0.toNat = 123; omega)))
          have HS2 : Aside0 ((acc ++ [b]) ++ fillB a (s.data.toList.drop (k + 1)) = fillB a s.data.toList) := ⟨by
            rw [← HS.out, Hdk.out, fillB_none (by rw [← Hb0.out, Hl.out]; exact sign_no a (fun h => h0 h.1)), List.append_assoc]
            rfl⟩
          have HL : Aside0 (acc.length + 1 ≤ 140737488355328) := ⟨by
            have h1 := HR.out
            rw [← HS2.out] at h1
            simp only [List.length_append, List.length_cons, List.length_nil] at h1
            omega⟩
          clear h0
          go_wp2_with fail
          refine (WriteByte w.heap.size w.heap.size _ _ _ HI.out (by rw [Lib.byteCells_length]; exact HL.out) hsz.out).mono ?_
          rintro e w2 ⟨rfl, hI2, hb2⟩
          have HI2 : Aside0 (Lib.IsBuilderF 94 5 w.heap.size w.heap.size (Lib.byteCells (acc ++ [b])) w2) := ⟨by rw [Lib.byteCells_append]; exact hI2⟩
          have HB2 := Aside0.mk (HB.out.trans hb2)
          clear hI2 hb2
          go_wp2_with fail
          go_roundw
          case rel => exact ⟨k + 1, acc ++ [b], by omega, by go_num, HS2, HI2, HB2⟩
          case measure => simp [intOf]; omega
        have fh0 : ((b0.toNat : Int) == 123) = true := beq_iff_eq.2 (by rw [h0]; rfl)
        by_cases h2 : b2 = 125
        case neg =>
          have fh2 : ((b2.toNat : Int) == 125) = false := beq_eq_false_iff_ne.2 (fun e => h2 (UInt8.toNat_inj.1 (by show b2.toNat = 125; omega)))
          have HS2 : Aside0 ((acc ++ [b]) ++ fillB a (s.data.toList.drop (k + 1)) = fillB a s.data.toList) := ⟨by
            rw [← HS.out, Hdk.out, fillB_none (by rw [← Hb0.out, Hl.out]; exact sign_no a (fun h => h2 h.2.1)), List.append_assoc]
            rfl⟩
          have HL : Aside0 (acc.length + 1 ≤ 140737488355328) := ⟨by
            have h1 := HR.out
            rw [← HS2.out] at h1
            simp only [List.length_append, List.length_cons, List.length_nil] at h1
            omega⟩
          clear h2
          go_wp2_with fail
          refine (WriteByte w.heap.size w.heap.size _ _ _ HI.out (by rw [Lib.byteCells_length]; exact HL.out) hsz.out).mono ?_
          rintro e w2 ⟨rfl, hI2, hb2⟩
          have HI2 : Aside0 (Lib.IsBuilderF 94 5 w.heap.size w.heap.size (Lib.byteCells (acc ++ [b])) w2) := ⟨by rw [Lib.byteCells_append]; exact hI2⟩
          have HB2 := Aside0.mk (HB.out.trans hb2)
          clear hI2 hb2
          go_wp2_with fail
          go_roundw
          case rel => exact ⟨k + 1, acc ++ [b], by omega, by go_num, HS2, HI2, HB2⟩
          case measure => simp [intOf]; omega
        have fh2 : ((b2.toNat : Int) == 125) = true := beq_iff_eq.2 (by rw [h2]; rfl)
        by_cases h48 : 48 ≤ b1.toNat
        case neg =>
          have fh48 : decide ((48 : Int) ≤ (b1.toNat : Int)) = false := decide_eq_false (by omega)
          have HS2 : Aside0 ((acc ++ [b]) ++ fillB a (s.data.toList.drop (k + 1)) = fillB a s.data.toList) := ⟨by
            rw [← HS.out, Hdk.out, fillB_none (by rw [← Hb0.out, Hl.out]; exact sign_no a (fun h => h48 h.2.2.1)), List.append_assoc]
            rfl⟩
          have HL : Aside0 (acc.length + 1 ≤ 140737488355328) := ⟨by
            have h1 := HR.out
            rw [← HS2.out] at h1
            simp only [List.length_append, List.length_cons, List.length_nil] at h1
            omega⟩
          clear h48
          go_wp2_with fail
          refine (WriteByte w.heap.size w.heap.size _ _ _ HI.out (by rw [Lib.byteCells_length]; exact HL.out) hsz.out).mono ?_
          rintro e w2 ⟨rfl, hI2, hb2⟩
          have HI2 : Aside0 (Lib.IsBuilderF 94 5 w.heap.size w.heap.size (Lib.byteCells (acc ++ [b])) w2) := ⟨by rw [Lib.byteCells_append]; exact hI2⟩
          have HB2 := Aside0.mk (HB.out.trans hb2)
          clear hI2 hb2
          go_wp2_with fail
          go_roundw
          case rel => exact ⟨k + 1, acc ++ [b], by omega, by go_num, HS2, HI2, HB2⟩
          case measure => simp [intOf]; omega
        have fh48 : decide ((48 : Int) ≤ (b1.toNat : Int)) = true := decide_eq_true (by omega)
        by_cases h57 : b1.toNat ≤ 57
        case neg =>
          have fh57 : decide ((b1.toNat : Int) ≤ 57) = false := decide_eq_false (by omega)
          have HS2 : Aside0 ((acc ++ [b]) ++ fillB a (s.data.toList.drop (k + 1)) = fillB a s.data.toList) := ⟨by
            rw [← HS.out, Hdk.out, fillB_none (by rw [← Hb0.out, Hl.out]; exact sign_no a (fun h => h57 h.2.2.2.1)), List.append_assoc]
            rfl⟩
          have HL : Aside0 (acc.length + 1 ≤ 140737488355328) := ⟨by
            have h1 := HR.out
            rw [← HS2.out] at h1
            simp only [List.length_append, List.length_cons, List.length_nil] at h1
            omega⟩
          clear h57
          go_wp2_with fail
          refine (WriteByte w.heap.size w.heap.size _ _ _ HI.out (by rw [Lib.byteCells_length]; exact HL.out) hsz.out).mono ?_
          rintro e w2 ⟨rfl, hI2, hb2⟩
          have HI2 : Aside0 (Lib.IsBuilderF 94 5 w.heap.size w.heap.size (Lib.byteCells (acc ++ [b])) w2) := ⟨by rw [Lib.byteCells_append]; exact hI2⟩
          have HB2 := Aside0.mk (HB.out.trans hb2)
          clear hI2 hb2
          go_wp2_with fail
          go_roundw
          case rel => exact ⟨k + 1, acc ++ [b], by omega, by go_num, HS2, HI2, HB2⟩
          case measure => simp [intOf]; omega
        have fh57 : decide ((b1.toNat : Int) ≤ 57) = true := decide_eq_true (by omega)
        by_cases hn : b1.toNat - 48 < a.length
        case neg =>
          have fhn : decide ((b1.toNat : Int) - 48 < (a.length : Int)) = false := decide_eq_false (by omega)
          have HS2 : Aside0 ((acc ++ [b]) ++ fillB a (s.data.toList.drop (k + 1)) = fillB a s.data.toList) := ⟨by
            rw [← HS.out, Hdk.out, fillB_none (by rw [← Hb0.out, Hl.out]; exact sign_no a (fun h => hn h.2.2.2.2)), List.append_assoc]
            rfl⟩
          have HL : Aside0 (acc.length + 1 ≤ 140737488355328) := ⟨by
            have h1 := HR.out
            rw [← HS2.out] at h1
            simp only [List.length_append, List.length_cons, List.length_nil] at h1
            omega⟩
          clear hn
          go_wp2_with fail
          refine (WriteByte w.heap.size w.heap.size _ _ _ HI.out (by rw [Lib.byteCells_length]; exact HL.out) hsz.out).mono ?_
          rintro e w2 ⟨rfl, hI2, hb2⟩
          have HI2 : Aside0 (Lib.IsBuilderF 94 5 w.heap.size w.heap.size (Lib.byteCells (acc ++ [b])) w2) := ⟨by rw [Lib.byteCells_append]; exact hI2⟩
          have HB2 := Aside0.mk (HB.out.trans hb2)
          clear hI2 hb2
          go_wp2_with fail
          go_roundw
          case rel => exact ⟨k + 1, acc ++ [b], by omega, by go_num, HS2, HI2, HB2⟩
          case measure => simp [intOf]; omega
        have fhn : decide ((b1.toNat : Int) - 48 < (a.length : Int)) = true := decide_eq_true (by omega)
        obtain ⟨bk, o, e1, hcs⟩ := C_strsD HC.out (by omega)
        subst e1
        have hcell := pw_cell_below HB.out (hcs (b1.toNat - 48) hn)
        rw [List.getD_eq_getElem?_getD, List.getElem?_eq_getElem hn, Option.getD_some] at hcell
        have HCs := Aside0.mk hcs
        obtain ⟨x, hx⟩ : ∃ x, x = a[b1.toNat - 48] := ⟨_, rfl⟩
        rw [← hx] at hcell
        have HS2 : Aside0 ((acc ++ x.data.toList) ++ fillB a (s.data.toList.drop (k + 3)) = fillB a s.data.toList) := ⟨by
          have h1 : s.data.toList.drop (k + 3) = (s.data.toList.drop (k + 1)).drop 2 := by rw [List.drop_drop]
          rw [← HS.out, Hdk.out, fillB_some (x := x) (by rw [← Hb0.out, Hl.out, h0, h2, hx]; exact sign_yes a h48 h57 hn), List.append_assoc, h1]⟩
        have HL : Aside0 (acc.length + x.size ≤ 140737488355328) := ⟨by
          have h1 := HR.out
          rw [← HS2.out] at h1
          simp only [List.length_append] at h1
          rw [Lib.size_eq]
          omega⟩
        have hn2 : (b1.toNat : Int) - 48 < (a.length : Int) := by omega
        have hn0 : (0 : Int) ≤ (b1.toNat : Int) - 48 := by omega
        have htn : ((b1.toNat : Int) - 48).toNat = b1.toNat - 48 := by omega
        clear hx hcs h0 h2
        go_wp2_with fail
        refine (WriteString w.heap.size w.heap.size _ _ _ HI.out (by rw [Lib.byteCells_length]; exact HL.out) hsz.out).mono ?_
        rintro e w2 ⟨rfl, hI2, hb2⟩
        have HI2 : Aside0 (Lib.IsBuilderF 94 5 w.heap.size w.heap.size (Lib.byteCells (acc ++ x.data.toList)) w2) := ⟨by rw [Lib.byteCells_append, ← strCells_bytes]; exact hI2⟩
        have HB2 := Aside0.mk (HB.out.trans hb2)
        clear hI2 hb2 hcell
        go_wp2_with fail
        go_roundw
        case rel => exact ⟨k + 3, acc ++ x.data.toList, by omega, by first | go_num | (congr 1; omega), HS2, HI2, HB2⟩
        case measure => simp [intOf]; omega
      · have HS0 := Aside0.mk hdk
        have HS2 : Aside0 ((acc ++ [b]) ++ fillB a (s.data.toList.drop (k + 1)) = fillB a s.data.toList) := ⟨by
          rw [← HS.out, hdk, fillB_none (sign_short a (by rw [← hdk, List.length_drop]; omega)), List.append_assoc]
          rfl⟩
        have HL : Aside0 (acc.length + 1 ≤ 140737488355328) := ⟨by
          have h1 := HR.out
          rw [← HS2.out] at h1
          simp only [List.length_append, List.length_cons, List.length_nil] at h1
          omega⟩
        have hk3 : (s.size : Int) < (k : Int) + 3 := by omega
        clear hdk
        go_wp2_with fail
        refine (WriteByte w.heap.size w.heap.size _ _ _ HI.out (by rw [Lib.byteCells_length]; exact HL.out) hsz.out).mono ?_
        rintro e w2 ⟨rfl, hI2, hb2⟩
        have HI2 : Aside0 (Lib.IsBuilderF 94 5 w.heap.size w.heap.size (Lib.byteCells (acc ++ [b])) w2) := ⟨by rw [Lib.byteCells_append]; exact hI2⟩
        have HB2 := Aside0.mk (HB.out.trans hb2)
        clear hI2 hb2
        go_wp2_with fail
        go_roundw
        case rel => exact ⟨k + 1, acc ++ [b], by omega, by go_num, HS2, HI2, HB2⟩
        case measure => simp [intOf]; omega
    · obtain rfl : k = s.size := by omega
      have hS := HS.out
      rw [List.drop_of_length_le (by omega), fillB_nil, List.append_nil] at hS
      have hsz := below_size HB.out
      subst hS
      go_wp2_with (go_at_call 70; refine (StringOf w.heap.size w.heap.size _ _ HI.out hsz).mono ?_; rintro e w' ⟨rfl, hb⟩)
      go_ret
      exact ⟨rfl, HB.out.trans hb⟩
theorem pattern_Fill.calls (a0 : ByteArray) (A1 : Option Addr) (c1 : Nat) (l1 : List ByteArray) (r : ByteArray) (w : World) (hr1 : Kd.C Kd.string w A1 l1.length l1) (hc1 : l1.length ≤ c1) (h : pattern_Fill.f a0 l1 = some r) (hG : Glob w) :
    Calls Tryd.prog 87 #[.string a0, .slice A1 l1.length c1] w fun e w' => e = .returned (.string r) ∧ Below w.heap.size w w' := by
  unfold pattern_Fill.f at h
  split at h
  · split at h
    · rename_i h1 h2
      obtain rfl := Option.some.inj h
      exact fill_any a0 A1 c1 l1 w hr1 hc1 h2 h1
    · cases h
  · cases h
end Go.Proofs.YthefdpioaapomaaDoor.Ext
