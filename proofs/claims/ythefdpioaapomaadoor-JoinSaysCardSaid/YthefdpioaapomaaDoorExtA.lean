/- The library's functions and the world's one premise, in the form in which the walks of this seat use them. -/
import Derived.Test.YthefdpioaapomaaDoorWWords
import Derived.Test.YthefdpioaapomaaDoorWMore
import Derived.Test.YthefdpioaapomaaDoorShelf
import Derived.Shelf.Strings.SlTrimAscii
namespace Go.Proofs.YthefdpioaapomaaDoor.Ext
set_option linter.unusedVariables false
set_option linter.unusedSimpArgs false
open Go.RowKit Go.Proofs.YthefdpioaapomaaDoorW.PrintWords Go.Proofs.YthefdpioaapomaaDoorW.PrintLast Go.Proofs.YthefdpioaapomaaDoorW.PrintMore

/-- The library's variable internal/bytealg.MaxLen holds some int. -/
def Glob (w : World) : Prop := ∃ m : Int, w.cell? ⟨0, 0, none⟩ = some (.int .i64 m)
theorem Glob.len {w : World} (h : Glob w) : ∃ m : Int, w.cell? ⟨0, 0, none⟩ = some (.int .i64 m) := h
theorem Glob.below {w w' : World} (h : Glob w) (hb : Below w.heap.size w w') : Glob w' := by
  obtain ⟨m, hm⟩ := h
  exact ⟨m, pw_cell_below hb hm⟩
theorem Glob.drewN {w : World} (h : Glob w) (n : Nat) : Glob (w.drewN n) := h.below (pw_below_drewN (Below.refl _ _) n)
theorem Glob.drew {w : World} (h : Glob w) : Glob w.drew := h.below (below_drew (Below.refl _ _))
theorem Glob.alloc {w : World} (h : Glob w) (o : Obj) : Glob (w.alloc o) := h.below (below_alloc (Below.refl _ _) o)

theorem newStrs (w : World) (base : Nat) (hb : base ≤ w.heap.size) (xs : List ByteArray) (hm : xs.length ≤ 9223372036854775807) :
    Kd.R Kd.string 9 (w.alloc (.cells (xs.map Value.string).toArray 9)) base (fun _ => True) (.slice (some ⟨w.heap.size, 0, none⟩) xs.length xs.length) xs :=
  Kd.R_of_own (own_lit_of (enc := Value.string) w base 9 xs hb hm) (fun _ _ => trivial)

/-! strings.Split -/
def strings_Split.f (a0 a1 : ByteArray) : Option (List ByteArray) :=
  if a0.size < 4294967281 then (if 1 ≤ a1.size then some (Lib.splitB a1 0 (Lib.countB a0 a1) a0) else none) else none
theorem strings_Split.calls (a0 a1 : ByteArray) (r : List ByteArray) (w : World) (h : strings_Split.f a0 a1 = some r) (hG : Glob w) :
    Calls Tryd.prog 64 #[.string a0, .string a1] w fun e w' => ∃ v0_ : Value, e = .returned v0_ ∧ Kd.R Kd.string 9 w' w.heap.size (fun _ => True) v0_ r ∧ Below w.heap.size w w' := by
  obtain ⟨m, hm⟩ := hG.len
  unfold strings_Split.f at h
  split at h
  · split at h
    · rename_i hs h1
      obtain rfl := Option.some.inj h
      have hl := Lib.splitB_all a1 h1 0 (Lib.countB a0 a1) a0 rfl
      have hc := Lib.countB_le a1 h1 a0.size a0 (Nat.le_refl _)
      refine (Tryd.strings_Split a0 a1 m w hs hm h1).mono ?_
      rintro e w' ⟨rfl, rfl⟩
      refine ⟨_, rfl, ?_, below_alloc (Below.refl _ _) _⟩
      rw [← hl]
      exact newStrs w w.heap.size (Nat.le_refl _) _ (by omega)
    · cases h
  · cases h

/-! strings.HasPrefix, strings.CutPrefix -/
def strings_HasPrefix.f (a0 a1 : ByteArray) : Option Bool := some (Lib.hasPrefix a0.data.toList a1.data.toList)
theorem strings_HasPrefix.calls (a0 a1 : ByteArray) (r : Bool) (w : World) (h : strings_HasPrefix.f a0 a1 = some r) (_hG : Glob w) :
    Calls Tryd.prog 96 #[.string a0, .string a1] w fun e w' => e = .returned (.bool r) ∧ Drawn0 w w' := by
  obtain rfl := Option.some.inj h
  refine (Tryd.strings_HasPrefix a0 a1 w).mono ?_
  rintro e w' ⟨rfl, rfl⟩
  exact ⟨rfl, Drawn0.refl _⟩

/-! strings.ContainsFunc(s, rows.odd) -/
def oddP (r : Nat) : Bool := r < 32 || 126 < r
theorem odd_any (r : Nat) (w : World) : Calls Tryd.prog 67 #[.int .i32 (r : Int)] w fun e w' => e = .returned (.bool (oddP r)) ∧ w = w' := by
  unfold oddP
  by_cases h : r < 32
  · have h1 : ((r : Int) < 32) := by omega
    go_enter Tryd.func67, Tryd.ntmps67
    go_wp2
    go_ret
    exact ⟨by simp [h], rfl⟩
  · have h1 : ¬ ((r : Int) < 32) := by omega
    go_enter Tryd.func67, Tryd.ntmps67
    go_wp2
    go_ret
    refine ⟨?_, rfl⟩
    have h2 : decide ((126 : Int) < (r : Int)) = decide (126 < r) := by
      by_cases h3 : 126 < r
      · simp [h3]; omega
      · simp [h3]; omega
    simp [h2]
theorem odd_grows (w : World) : PredGrows Tryd.prog 67 #[] oddP w := by
  intro W x _ _
  refine (odd_any x W).mono ?_
  rintro e w' ⟨rfl, rfl⟩
  exact ⟨rfl, Below.refl _ _⟩
def strings_ContainsFunc.f (a0 : ByteArray) : Option Bool := some (decide (0 ≤ Lib.idxFunc oddP true a0))
theorem strings_ContainsFunc.calls (a0 : ByteArray) (r : Bool) (w : World) (h : strings_ContainsFunc.f a0 = some r) (_hG : Glob w) :
    Calls Tryd.prog 66 #[.string a0, .func (.func 67) #[] #[]] w fun e w' => e = .returned (.bool r) ∧ Below w.heap.size w w' := by
  obtain rfl := Option.some.inj h
  exact Tryd.strings_ContainsFunc_grows 67 #[] (enters_of Tryd.func67 (by kernel_rfl) rfl) oddP a0 w (odd_grows w)

/-! strings.ReplaceAll -/
def strings_ReplaceAll.f (a0 a1 a2 : ByteArray) : Option ByteArray :=
  if a0.size < 4294967281 then (if 1 ≤ a1.size then (if a0.size + Lib.countB a0 a1 * a2.size ≤ 140737488355328 then some ⟨(Lib.replaceAll a0.data.toList a1.data.toList a2.data.toList).toArray⟩ else none) else none) else none
theorem strings_ReplaceAll.calls (a0 a1 a2 : ByteArray) (r : ByteArray) (w : World) (h : strings_ReplaceAll.f a0 a1 a2 = some r) (hG : Glob w) :
    Calls Tryd.prog 73 #[.string a0, .string a1, .string a2] w fun e w' => e = .returned (.string r) ∧ Below w.heap.size w w' := by
  obtain ⟨m, hm⟩ := hG.len
  unfold strings_ReplaceAll.f at h
  split at h
  · split at h
    · split at h
      · rename_i hs h1 hl
        obtain rfl := Option.some.inj h
        exact Tryd.strings_ReplaceAll a0 a1 a2 m w hs hm h1 hl
      · cases h
    · cases h
  · cases h

/-- A row of strings that is read: its address and its cells. -/
theorem C_strs {w : World} {A : Option Addr} {n : Nat} {xs : List ByteArray} (h : Kd.C Kd.string w A n xs) (hn : 0 < n) :
    ∃ bk o, A = some ⟨bk, o, none⟩ ∧ bk < w.heap.size ∧ ∀ (j : Nat) x, xs[j]? = some x → w.cell? ⟨bk, o + j, none⟩ = some (.string x) := by
  obtain ⟨hl, hm, hc0⟩ := h
  obtain ⟨ad, rfl, hc⟩ := hc0 hn
  clear hc0
  have key : ∀ (j : Nat) x, xs[j]? = some x → w.cell? (ad.add j) = some (.string x) := by
    intro j x hx
    obtain ⟨c, hcl, hk, hcell⟩ := hc j x hx
    have hk' : c = [Value.string x] := hk
    subst hk'
    have := hcell 0 _ rfl
    simpa [Kd.string, Kd.scalar] using this
  obtain ⟨b, o, sp⟩ := ad
  have h0 : sp = none := by
    have := key 0 _ (List.getElem?_eq_getElem (by omega))
    cases sp with
    | none => rfl
    | some z => simp [World.cell?, Addr.add] at this; split at this <;> simp at this
  subst h0
  have key2 : ∀ (j : Nat) x, xs[j]? = some x → w.cell? ⟨b, o + j, none⟩ = some (.string x) := by
    intro j x hx
    have := key j x hx
    rwa [add_at] at this
  exact ⟨b, o, rfl, World.block_lt_of_cell? w ⟨b, o + 0, none⟩ (key2 0 _ (List.getElem?_eq_getElem (by omega))), key2⟩
theorem C_strsD {w : World} {A : Option Addr} {n : Nat} {xs : List ByteArray} (h : Kd.C Kd.string w A n xs) (hn : 0 < n) :
    ∃ bk o, A = some ⟨bk, o, none⟩ ∧ ∀ j, j < xs.length → w.cell? ⟨bk, o + j, none⟩ = some (.string (xs.getD j ByteArray.empty)) := by
  obtain ⟨b, o, e, _, hc⟩ := C_strs h hn
  refine ⟨b, o, e, fun j hj => hc j _ ?_⟩
  rw [List.getD_eq_getElem?_getD, List.getElem?_eq_getElem hj]
  rfl

/-! strings.CutPrefix -/
def strings_CutPrefix.f (a0 a1 : ByteArray) : Option (ByteArray × Bool) :=
  some (⟨(Lib.trimPrefix a0.data.toList a1.data.toList).toArray⟩, Lib.hasPrefix a0.data.toList a1.data.toList)
theorem strings_CutPrefix.calls (a0 a1 : ByteArray) (r1 : ByteArray) (r2 : Bool) (w : World) (h : strings_CutPrefix.f a0 a1 = some (r1, r2)) (_hG : Glob w) :
    Calls Tryd.prog 109 #[.string a0, .string a1] w fun e w' => e = .returned (.tuple #[.string r1, .bool r2]) ∧ Drawn0 w w' := by
  have h' := Option.some.inj h
  simp only [Prod.mk.injEq] at h'
  obtain ⟨rfl, rfl⟩ := h'
  refine (Tryd.strings_CutPrefix a0 a1 w).mono ?_
  rintro e w' ⟨rfl, rfl⟩
  exact ⟨rfl, Drawn0.refl _⟩

/-! strings.Join -/
def joinB (l : List ByteArray) (sep : ByteArray) : ByteArray := ⟨(Lib.join (l.map (·.data.toList)) sep.data.toList).toArray⟩
def strings_Join.f (l0 : List ByteArray) (a1 : ByteArray) : Option ByteArray :=
  if (joinB l0 a1).size ≤ 140737488355328 then (if l0.length ≤ 140737488355328 then some (joinB l0 a1) else none) else none
theorem strings_Join.calls (A0 : Option Addr) (c0 : Nat) (l0 : List ByteArray) (a1 : ByteArray) (r : ByteArray) (w : World) (hr0 : Kd.C Kd.string w A0 l0.length l0) (hc0 : l0.length ≤ c0) (h : strings_Join.f l0 a1 = some r) (_hG : Glob w) :
    Calls Tryd.prog 69 #[.slice A0 l0.length c0, .string a1] w fun e w' => e = .returned (.string r) ∧ Below w.heap.size w w' := by
  unfold strings_Join.f at h
  split at h
  · split at h
    · rename_i hl hN
      obtain rfl := Option.some.inj h
      rcases Nat.eq_zero_or_pos l0.length with h0 | h0
      · have h1 : l0 = [] := List.eq_nil_of_length_eq_zero h0
        subst h1
        refine (Tryd.strings_Join_none A0 c0 a1 w).mono ?_
        rintro e w' ⟨rfl, rfl⟩
        exact ⟨rfl, Below.refl _ _⟩
      · obtain ⟨b, o, rfl, hb, hc⟩ := C_strs hr0 h0
        exact Tryd.strings_Join b o c0 l0 a1 w hc hb hN hc0 (by simpa [joinB, ByteArray.size] using hl)
    · cases h
  · cases h

/-! slices.Clone of strings -/
def slices_Clone.f (l0 : List ByteArray) : Option (List ByteArray) := if l0.length * 16 ≤ 140737488355328 then some l0 else none
theorem slices_Clone.calls (A0 : Option Addr) (c0 : Nat) (l0 : List ByteArray) (r : List ByteArray) (w : World) (hr0 : Kd.C Kd.string w A0 l0.length l0) (_hc0 : l0.length ≤ c0) (h : slices_Clone.f l0 = some r) (_hG : Glob w) :
    Calls Tryd.prog 71 #[.slice A0 l0.length c0] w fun e w' => ∃ v0_ : Value, e = .returned v0_ ∧ Kd.R Kd.string 9 w' w.heap.size (fun _ => True) v0_ r ∧ Below w.heap.size w w' := by
  unfold slices_Clone.f at h
  split at h
  · rename_i hl
    obtain rfl := Option.some.inj h
    rcases Nat.eq_zero_or_pos l0.length with h0 | h0
    · have h1 : l0 = [] := List.eq_nil_of_length_eq_zero h0
      subst h1
      cases A0 with
      | none =>
        refine (Tryd.slices_Clone_string_nil 0 c0 w).mono ?_
        rintro e w' ⟨rfl, rfl⟩
        exact ⟨_, rfl, Kd.R_nil _ _ _ _ _, Below.refl _ _⟩
      | some a =>
        refine (Tryd.slices_Clone_string_zero a c0 w).mono ?_
        rintro e w' ⟨v', rfl, hown, _, hb⟩
        exact ⟨v', rfl, Kd.R_of_own (enc := Value.string) hown (fun _ _ => trivial), hb⟩
    · obtain ⟨b, o, rfl, hc⟩ := C_strsD hr0 h0
      refine (Tryd.slices_Clone_string b o l0.length c0 l0 w (Nat.le_refl _) hl hc).mono ?_
      rintro e w' ⟨v', rfl, hown, _, hb⟩
      rw [List.take_length] at hown
      exact ⟨v', rfl, Kd.R_of_own (enc := Value.string) hown (fun _ _ => trivial), hb⟩
  · cases h

/-! slices.Contains of strings -/
def slices_Contains.f (l0 : List ByteArray) (a1 : ByteArray) : Option Bool := some (Lib.containsS l0 a1)
theorem slices_Contains.calls (A0 : Option Addr) (c0 : Nat) (l0 : List ByteArray) (a1 : ByteArray) (r : Bool) (w : World) (hr0 : Kd.C Kd.string w A0 l0.length l0) (_hc0 : l0.length ≤ c0) (h : slices_Contains.f l0 a1 = some r) (_hG : Glob w) :
    Calls Tryd.prog 108 #[.slice A0 l0.length c0, .string a1] w fun e w' => e = .returned (.bool r) ∧ Drawn0 w w' := by
  obtain rfl := Option.some.inj h
  rcases Nat.eq_zero_or_pos l0.length with h0 | h0
  · have h1 : l0 = [] := List.eq_nil_of_length_eq_zero h0
    subst h1
    refine (Tryd.slices_Contains_string_empty A0 c0 a1 w).mono ?_
    rintro e w' ⟨rfl, rfl⟩
    exact ⟨rfl, Drawn0.refl _⟩
  · obtain ⟨b, o, rfl, hc⟩ := C_strsD hr0 h0
    refine (Tryd.slices_Contains_string b o l0.length c0 l0 a1 w (Nat.le_refl _) hr0.2.1 hc).mono ?_
    rintro e w' ⟨rfl, rfl⟩
    rw [List.take_length]
    exact ⟨rfl, Drawn0.refl _⟩

/-! strings.Trim at an ASCII cutset -/
def strings_Trim.f (a0 a1 : ByteArray) : Option ByteArray :=
  if a0.size ≤ 9223372036854775807 then (if a1.size < 4294967281 then (if a1.data.toList.all (fun b => decide (b.toNat < 128)) = true then some ⟨(Lib.trimS a0.data.toList a1.data.toList).toArray⟩ else none) else none) else none
theorem strings_Trim.calls (a0 a1 : ByteArray) (r : ByteArray) (w : World) (h : strings_Trim.f a0 a1 = some r) (_hG : Glob w) :
    Calls Tryd.prog 74 #[.string a0, .string a1] w fun e w' => e = .returned (.string r) ∧ Below w.heap.size w w' := by
  unfold strings_Trim.f at h
  split at h
  · split at h
    · split at h
      · rename_i hs hc ha
        obtain rfl := Option.some.inj h
        exact Any.strings_Trim_laid Tryd.lays160 (by kernel_rfl) a0 a1 w hs hc (ascii_of_all ha)
      · cases h
    · cases h
  · cases h

/-! strings.Count of a text that is not empty -/
def strings_Count.f (a0 a1 : ByteArray) : Option Int := if a0.size < 4294967281 then (if 1 ≤ a1.size then some (Lib.countB a0 a1 : Int) else none) else none
theorem strings_Count.calls (a0 a1 : ByteArray) (r : Int) (w : World) (h : strings_Count.f a0 a1 = some r) (hG : Glob w) :
    Calls Tryd.prog 119 #[.string a0, .string a1] w fun e w' => e = .returned (.int .i64 r) ∧ Drawn0 w w' := by
  obtain ⟨m, hm⟩ := hG.len
  unfold strings_Count.f at h
  split at h
  · split at h
    · rename_i hs h1
      obtain rfl := Option.some.inj h
      refine (Tryd.strings_Count_any a0 a1 m w hs hm h1).mono ?_
      rintro e w' ⟨rfl, rfl⟩
      exact ⟨rfl, Drawn0.refl _⟩
    · cases h
  · cases h
end Go.Proofs.YthefdpioaapomaaDoor.Ext
