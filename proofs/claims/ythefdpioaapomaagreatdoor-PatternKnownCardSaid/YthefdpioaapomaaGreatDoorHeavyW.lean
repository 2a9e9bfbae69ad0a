/- heavy, texts: what they say. -/
import Derived.Test.YthefdpioaapomaaGreatDoorAwakeW
import Derived.Test.YthefdpioaapomaaGreatDoorPA1
import Derived.Test.YthefdpioaapomaaGreatDoorPA2
namespace Go.Proofs.YthefdpioaapomaaGreatDoor.Pz
set_option linter.unusedVariables false
set_option linter.unusedSimpArgs false
open Go.RowKit Go.Proofs.YthefdpioaapomaaGreatDoorW.PrintWords Go.Proofs.YthefdpioaapomaaGreatDoorW.PrintLast Go.Proofs.YthefdpioaapomaaGreatDoor.Ext Go.Proofs.YthefdpioaapomaaGreatDoorW.PrintMore Go.Proofs.YthefdpioaapomaaGreatDoor.PA Go.Proofs.YthefdpioaapomaaGreatDoor.Pl

abbrev bigW (s : ByteArray) : Bool := decide (120 < s.size)
abbrev bigR (r : S41) : Bool := decide (30 < r.f1.length) || r.f1.any bigW
def heavyB (l : List S41) : Bool := decide (60 < l.length) || l.any bigR
theorem heavyB_no {l : List S41} (h : heavyB l = false) : l.length ≤ 60 ∧ ∀ r ∈ l, r.f1.length ≤ 30 ∧ ∀ s ∈ r.f1, s.size ≤ 120 := by
  unfold heavyB at h
  rw [Bool.or_eq_false_iff] at h
  refine ⟨by have := of_decide_eq_false h.1; omega, fun r hr => ?_⟩
  have h1 := List.any_eq_false.1 h.2 r hr
  rw [Bool.not_eq_true, Bool.or_eq_false_iff] at h1
  refine ⟨by have := of_decide_eq_false h1.1; omega, fun s hs => ?_⟩
  have h2 := List.any_eq_false.1 h1.2 s hs
  rw [Bool.not_eq_true] at h2
  have := of_decide_eq_false h2
  omega
theorem heavy_in (l : List S41) (i : Nat) (hi : i < l.length) (hl : l.length ≤ 60) (hw : l[i].f1.length ≤ 30) (R : Bool) (hR : Ev (fun k => cubitlaw22_heavy.l0 k l ((i + 1 : Nat) : Int)) R) :
    ∀ (d j : Nat), j + d = l[i].f1.length → Ev (fun k => cubitlaw22_heavy.l1 k l (i : Int) (j : Int)) ((l[i].f1.drop j).any bigW || R) := by
  have hrd : rd_T41 l (i : Int) = l[i] := by simp [rd_T41, hi]
  intro d
  induction d with
  | zero =>
    intro j hj
    have : ((l[i].f1.drop j).any bigW || R) = R := by rw [List.drop_of_length_le (by omega)]; rfl
    rw [this]
    apply Ev.step (f := fun k => cubitlaw22_heavy.l0 k l ((i + 1 : Nat) : Int))
    · intro k
      simp only [cubitlaw22_heavy.l1]
      rw [if_pos (by omega), if_pos (by omega), hrd, if_neg (by omega), wrap_nat (by omega)]
    · exact hR
  | succ d ih =>
    intro j hj
    have hj' : j < l[i].f1.length := by omega
    have hro : rdOf ByteArray.empty l[i].f1 (j : Int) = l[i].f1[j] := by simp [rdOf, hj']
    rw [List.drop_eq_getElem_cons hj', List.any_cons]
    by_cases hb : 120 < (l[i].f1[j]).size
    · have : bigW (l[i].f1[j]) = true := decide_eq_true hb
      rw [this]
      apply Ev.step (f := fun _ => some true)
      · intro k
        simp only [cubitlaw22_heavy.l1]
        rw [if_pos (by omega), if_pos (by omega), hrd, if_pos (by omega), if_pos (by omega), hro, if_pos (by omega)]
      · exact Ev.now _
    · have : bigW (l[i].f1[j]) = false := decide_eq_false hb
      rw [this, Bool.false_or]
      apply Ev.step (f := fun k => cubitlaw22_heavy.l1 k l (i : Int) ((j + 1 : Nat) : Int))
      · intro k
        simp only [cubitlaw22_heavy.l1]
        rw [if_pos (by omega), if_pos (by omega), hrd, if_pos (by omega), if_pos (by omega), hro, if_neg (by omega), wrap_nat (by omega)]
      · exact ih (j + 1) (by omega)
theorem heavy_out (l : List S41) (hl : l.length ≤ 60) : ∀ (d i : Nat), i + d = l.length → Ev (fun k => cubitlaw22_heavy.l0 k l (i : Int)) ((l.drop i).any bigR) := by
  intro d
  induction d with
  | zero =>
    intro i hi
    rw [List.drop_of_length_le (by omega)]
    apply Ev.step (f := fun _ => some false)
    · intro k
      simp only [cubitlaw22_heavy.l0]
      rw [if_neg (by omega)]
    · exact Ev.now _
  | succ d ih =>
    intro i hi
    have hi' : i < l.length := by omega
    have hrd : rd_T41 l (i : Int) = l[i] := by simp [rd_T41, hi']
    rw [List.drop_eq_getElem_cons hi', List.any_cons]
    by_cases hw : 30 < l[i].f1.length
    · have : bigR l[i] = true := by unfold bigR; rw [decide_eq_true hw]; rfl
      rw [this]
      apply Ev.step (f := fun _ => some true)
      · intro k
        simp only [cubitlaw22_heavy.l0]
        rw [if_pos (by omega), if_pos (by omega), hrd, if_pos (by omega)]
      · exact Ev.now _
    · have : bigR l[i] = l[i].f1.any bigW := by unfold bigR; rw [decide_eq_false hw]; rfl
      rw [this]
      apply Ev.step (f := fun k => cubitlaw22_heavy.l1 k l (i : Int) ((0 : Nat) : Int))
      · intro k
        simp only [cubitlaw22_heavy.l0]
        rw [if_pos (by omega), if_pos (by omega), hrd, if_neg (by omega)]
        rfl
      · have := heavy_in l i hi' hl (by omega) _ (ih (i + 1) (by omega)) l[i].f1.length 0 (by omega)
        rwa [List.drop_zero] at this
theorem heavy_ev (l : List S41) : Ev (fun k => cubitlaw22_heavy.f k l) (heavyB l) := by
  by_cases h : 60 < l.length
  · have : heavyB l = true := by unfold heavyB; rw [decide_eq_true h]; rfl
    rw [this]
    refine Ev.congr (fun k => ?_) (Ev.now true)
    unfold cubitlaw22_heavy.f
    rw [if_pos (by omega)]
  · have : heavyB l = l.any bigR := by unfold heavyB; rw [decide_eq_false h]; rfl
    rw [this]
    have h0 := heavy_out l (by omega) l.length 0 (by omega)
    rw [List.drop_zero] at h0
    refine Ev.congr (fun k => ?_) h0
    unfold cubitlaw22_heavy.f
    rw [if_neg (by omega)]
    rfl
theorem heavy_any (A : Option Addr) (c : Nat) (l : List S41) (w : World) (hC : Kd.C k41 w A l.length l) (hc : l.length ≤ c) (hG : Glob w) :
    Calls Tryz.prog 16 #[.slice A l.length c] w fun e w' => e = .returned (.bool (heavyB l)) ∧ Below w.heap.size w w' := by
  obtain ⟨k, hk⟩ := Ev.rounds (heavy_ev l)
  refine (cubitlaw22_heavy.calls k A c l (heavyB l) w hC hc hk hG).mono ?_
  rintro e w' ⟨rfl, ⟨n, rfl⟩⟩
  exact ⟨rfl, pw_below_drewN (Below.refl _ _) n⟩
theorem texts_loop (l : List ByteArray) (hl : l.length < 1000000000000) : ∀ (d i : Nat), i + d = l.length → Ev (fun k => cubitlaw22_texts.l0 k l l (i : Int)) true
  | 0, i, hd => by
    apply Ev.step (f := fun _ => some true)
    · intro k
      simp only [cubitlaw22_texts.l0]
      rw [if_neg (by omega)]
    · exact Ev.now _
  | d + 1, i, hd => by
    apply Ev.step (f := fun k => cubitlaw22_texts.l0 k l l ((i + 1 : Nat) : Int))
    · intro k
      simp only [cubitlaw22_texts.l0]
      rw [if_pos (by omega), if_pos (by omega), if_pos (by omega), if_pos trivial, wrap_nat (by omega)]
    · exact texts_loop l hl d (i + 1) (by omega)
theorem texts22_ev (l : List ByteArray) (hl : l.length < 1000000000000) : Ev (fun k => cubitlaw22_texts.f k l l) true := by
  refine Ev.congr (fun k => ?_) (texts_loop l hl l.length 0 (by omega))
  unfold cubitlaw22_texts.f
  rw [if_pos rfl]
  rfl
theorem texts22_any (l : List ByteArray) (hl : l.length < 1000000000000) (A0 A1 : Option Addr) (c0 c1 : Nat) (w : World) (h0 : Kd.C Kd.string w A0 l.length l) (hc0 : l.length ≤ c0) (h1 : Kd.C Kd.string w A1 l.length l) (hc1 : l.length ≤ c1) (hG : Glob w) :
    Calls Tryz.prog 11 #[.slice A0 l.length c0, .slice A1 l.length c1] w fun e w' => e = .returned (.bool true) ∧ Below w.heap.size w w' := by
  obtain ⟨k, hk⟩ := Ev.rounds (texts22_ev l hl)
  refine (cubitlaw22_texts.calls k A0 c0 l A1 c1 l true w h0 hc0 h1 hc1 hk hG).mono ?_
  rintro e w' ⟨rfl, ⟨n, rfl⟩⟩
  exact ⟨rfl, pw_below_drewN (Below.refl _ _) n⟩
end Go.Proofs.YthefdpioaapomaaGreatDoor.Pz
