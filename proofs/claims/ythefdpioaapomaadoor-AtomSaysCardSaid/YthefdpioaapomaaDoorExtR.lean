/- atom.row, walked: each name may be, none twice (a map that the call makes and keeps). -/
import Derived.Test.YthefdpioaapomaaDoorExtA
import Derived.Maps.OwnOps
import Derived.Maps.OwnSet
import Derived.Maps.Views
import Derived.StringKeys
import Derived.Test.YthefdpioaapomaaDoorPM1
namespace Go.Proofs.YthefdpioaapomaaDoor.Ext
set_option linter.unusedVariables false
set_option linter.unusedSimpArgs false
open Go.RowKit Go.Proofs.YthefdpioaapomaaDoorW.PrintWords Go.Proofs.YthefdpioaapomaaDoorW.PrintLast Go.Maps Go.WideMaps

/-- Is the name among those? -/
def seen (had : List ByteArray) (s : ByteArray) : Bool := had.any (fun x => x.data.toList == s.data.toList)
def rowGo : List ByteArray → List ByteArray → Option Bool
  | [], _ => some true
  | s :: l, had => if s.size ≤ maxLen then ((PM.atom_may.f 2 s).bind fun m => (if m = true then (if seen had s = true then some false else rowGo l (s :: had)) else some false)) else none
/-- The map's datum. -/
def hadD : List ByteArray → DataW Unit
  | [] => .map []
  | s :: had => (hadD had).put (.string s.data.toList) (.lit (.bool true))
theorem hadD_map : ∀ had, IsMap (hadD had)
  | [] => ⟨[], rfl⟩
  | s :: had => by
    obtain ⟨es, e⟩ := hadD_map had
    unfold hadD
    rw [e]
    exact ⟨_, rfl⟩
theorem hadD_at (s : ByteArray) : ∀ had : List ByteArray, (hadD had).atKey (.string s.data.toList) (.lit (.bool false)) = .lit (.bool (seen had s))
  | [] => rfl
  | x :: had => by
    have e : seen (x :: had) s = ((x.data.toList == s.data.toList) || seen had s) := rfl
    rw [e]
    unfold hadD
    by_cases hx : x.data.toList = s.data.toList
    · rw [hx, atKey_put_same (hadD_map had) (by trivial)]
      simp
    · rw [atKey_put_other (fun e => hx (by injection e with e; exact e.symm)), hadD_at s had]
      have : (x.data.toList == s.data.toList) = false := beq_eq_false_iff_ne.2 hx
      rw [this, Bool.false_or]
/-- A map of its own, behind a call that leaves it alone. -/
theorem ownsMap_below {w w' : World} {b n : Nat} {P : Program} {k : TypeId} {R : Value → Option (DataW Unit × List MemPlace)} {D : DataW Unit} (h : w.ownsMap P k R b n D) (hb : Below w.heap.size w w') : w'.ownsMap P k R b n D := by
  have hlt := h.lt
  obtain ⟨es, clock, h1, h2⟩ := h
  exact ⟨es, clock, by rw [hb.block b hlt]; exact h1, h2⟩
set_option maxRecDepth 100000 in
theorem look_bool {w : World} {b n : Nat} {had : List ByteArray} (h : w.ownsMap Tryd.prog 9 (plainElem Tryd.prog 4) b n (hadD had)) {s : ByteArray} (hs : s.size ≤ maxLen) :
    (Instr.lookup 135 (.map (some b)) (.string s) false).run Tryd.prog w = .ok (.bool (seen had s)) w := by
  obtain ⟨v, ps, hrun, hv⟩ := h.lookup (string_keyed Tryd.underlying9) Tryd.underlying135 (z := .bool false) (by kernel_rfl) (plainElem_bool Tryd.underlying4 false) (keyOf_string_mk Tryd.underlying9 hs)
  rw [hadD_at] at hv
  rw [hrun]
  have : v = .bool (seen had s) := by
    unfold plainElem at hv
    rw [Tryd.underlying4] at hv
    cases v <;> simp at hv
    exact congrArg Value.bool hv.1
  rw [this]

def atom_row.f (l0 : List ByteArray) : Option Bool := rowGo l0 []
set_option maxHeartbeats 2000000 in
set_option maxRecDepth 100000 in
theorem atom_row.calls (A0 : Option Addr) (c0 : Nat) (l0 : List ByteArray) (r : Bool) (w : World) (hr0 : Kd.C Kd.string w A0 l0.length l0) (hc0 : l0.length ≤ c0) (h : atom_row.f l0 = some r) (hG : Glob w) :
    Calls Tryd.prog 78 #[.slice A0 l0.length c0] w fun e w' => e = .returned (.bool r) ∧ Below w.heap.size w w' := by
  have hm : l0.length ≤ 9223372036854775807 := hr0.2.1
  have hres : rowGo l0 [] = some r := h
  have HR := Aside0.mk hr0
  have HG := Aside0.mk hG
  have HE := Aside0.mk hres
  clear hr0 hG h hc0 hres
  have hmm := @run_makeMap Tryd.prog
  go_enter Tryd.func78, Tryd.ntmps78
  go_wp2
  go_loopw [9] (fun i wr => ∃ (k : Nat) (had : List ByteArray), k ≤ l0.length ∧ i = .int .i64 k ∧ Aside0 (rowGo (l0.drop k) had = some r) ∧ Aside0 (wr.ownsMap Tryd.prog 9 (plainElem Tryd.prog 4) w.heap.size k (hadD had)) ∧ Aside0 (Below w.heap.size w wr)) (fun i _ => l0.length - (intOf i).toNat)
  case atStart => exact ⟨0, [], Nat.zero_le _, rfl, HE, ⟨World.ownsMap_made _ _ _ _⟩, ⟨below_alloc (Below.refl _ _) _⟩⟩
  case round =>
    obtain ⟨k, had, hk, rfl, HS, HO, HB⟩ := hrel
    clear HE
    by_cases hlt : k < l0.length
    · have hS := HS.out
      rw [List.drop_eq_getElem_cons hlt] at hS
      obtain ⟨ad, rfl, hx0⟩ := Kd.at_string HR.out (k : Int) (by omega) (by omega)
      have hrd : rdOf ByteArray.empty l0 (k : Int) = l0[k] := by simp [rdOf, hlt]
      rw [hrd, Int.toNat_natCast] at hx0
      generalize l0[k] = s at hS hx0
      replace hx0 := pw_cell_below HB.out hx0
      rw [rowGo] at hS
      by_cases hsz : s.size ≤ maxLen
      case neg => rw [if_neg hsz] at hS; cases hS
      rw [if_pos hsz] at hS
      obtain ⟨b, hkk, hS⟩ := Option.bind_eq_some_iff.1 hS
      have hS' := Aside0.mk hS
      have HM := Aside0.mk hkk
      clear hS hkk hrd
      cases b with
      | false =>
        have hE : false = r := by
          have := hS'.out
          rw [if_neg (by decide)] at this
          exact Option.some.inj this
        subst hE
        go_wp2_with (go_at_call 110; refine (PM.atom_may.calls 2 s false _ HM.out (HG.out.below HB.out)).mono ?_; rintro e w2 ⟨rfl, hb2⟩)
        go_ret
        exact ⟨rfl, below_step HB.out hb2⟩
      | true =>
        cases hc : seen had s with
        | true =>
          have hE : false = r := by
            have := hS'.out
            rw [if_pos rfl, if_pos hc] at this
            exact Option.some.inj this
          subst hE
          go_wp2_with fail
          refine (PM.atom_may.calls 2 s true _ HM.out (HG.out.below HB.out)).mono ?_
          rintro e w2 ⟨rfl, hb2⟩
          have hlk := look_bool (ownsMap_below HO.out hb2) hsz
          rw [hc] at hlk
          go_wp2
          go_ret
          exact ⟨rfl, below_step HB.out hb2⟩
        | false =>
          have hE : rowGo (l0.drop (k + 1)) (s :: had) = some r := by
            have := hS'.out
            rw [if_pos rfl, if_neg (by rw [hc]; decide)] at this
            exact this
          have hS2 := Aside0.mk hE
          clear hE hS'
          go_wp2_with fail
          refine (PM.atom_may.calls 2 s true _ HM.out (HG.out.below HB.out)).mono ?_
          rintro e w2 ⟨rfl, hb2⟩
          have hlk := look_bool (ownsMap_below HO.out hb2) hsz
          rw [hc] at hlk
          go_wp2_with (at_mapUpdate; refine wpList_mapUpdate_own _ rfl _ _ _ 135 rfl 9 4 (string_keyed Tryd.underlying9) Tryd.underlying135 (plainElem Tryd.prog 4) w.heap.size k (hadD had) rfl (ownsMap_below HO.out hb2) (by unfold maxLen; omega) _ _ _ rfl rfl (keyOf_string_mk Tryd.underlying9 hsz) _ [] (plainElem_bool Tryd.underlying4 true) ?_; intro w3 hown3 hgrow3)
          have HB3 : Below w.heap.size w w3 := (below_step HB.out hb2).grown hgrow3 (below_size (below_step HB.out hb2)) (fun j hj => by cases hj; exact Nat.le_refl _)
          go_roundw
          case rel => exact ⟨k + 1, s :: had, by omega, by go_num, hS2, ⟨hown3⟩, ⟨HB3⟩⟩
          case measure => simp [intOf]; omega
    · obtain rfl : k = l0.length := by omega
      have hS := HS.out
      rw [List.drop_length] at hS
      obtain rfl : true = r := Option.some.inj hS
      go_wp2
      go_ret
      exact ⟨rfl, HB.out⟩
end Go.Proofs.YthefdpioaapomaaDoor.Ext
