-- Written by this session's own run of a patched print program: see NOTES.md.
import Derived.Test.YthefdpioaapomaaDoorPA0
import Derived.Test.YthefdpioaapomaaDoorPA1
import Derived.Test.YthefdpioaapomaaDoorPA2
import Derived.Test.YthefdpioaapomaaDoorExtS
namespace Go.Proofs.YthefdpioaapomaaDoor.PA
open Go.RowKit Go.Proofs.YthefdpioaapomaaDoorW.PrintWords Go.Proofs.YthefdpioaapomaaDoorW.PrintLast Go.Proofs.YthefdpioaapomaaDoor.Ext Go.Proofs.YthefdpioaapomaaDoorW.PrintMore
attribute [local go_sem] max2_int min2_int max_two min_two max_three min_three max_four min_four   -- for this text's walks alone
set_option linter.unusedVariables false
set_option linter.unusedSimpArgs false

/-! ### cubitlaw7_RowsBack: function 3 -/
mutual
def cubitlaw7_RowsBack.j0 : Nat → List (S31) → List (S31) → Bool → Option (Bool)
  | 0, _, _, _ => none
  | k + 1, x3, x6, x41 => if x41 = true then (some false) else (cubitlaw7_RowsBack.l0 k x3 x6 0)
def cubitlaw7_RowsBack.l0 : Nat → List (S31) → List (S31) → Int → Option (Bool)
  | 0, _, _, _ => none
  | k + 1, x3, x6, x9 => if x9 < (x3.length : Int) then (if 0 ≤ x9 then (if x9 < (x6.length : Int) then ((cubitlaw7_texts.f k ((rd_T31 x3 x9).f1) ((rd_T31 x6 x9).f1)).bind fun t156 => (if t156 = true then (cubitlaw7_RowsBack.j2 k x3 x6 x9 (((rd_T31 x6 x9).f0) != (wrap64 (x9 + 1)))) else (cubitlaw7_RowsBack.j2 k x3 x6 x9 true))) else (none)) else (none)) else ((rows_Show.f x6).bind fun t158 => ((rows_Show.f x3).bind fun t159 => (if t158.toList = t159.toList then (some true) else (some false))))
def cubitlaw7_RowsBack.j2 : Nat → List (S31) → List (S31) → Int → Bool → Option (Bool)
  | 0, _, _, _, _ => none
  | k + 1, x3, x6, x9, x69 => if x69 = true then (some false) else (cubitlaw7_RowsBack.l0 k x3 x6 (wrap64 (x9 + 1)))
end
def cubitlaw7_RowsBack.f (k : Nat) (a0 : ByteArray) : Option (Bool) := (cubitlaw7_awake.f k).bind fun t142 => (if t142 = true then (if (a0.size : Int) > 2000 then (some true) else ((rows_Parse.f k a0).bind fun bt143 => (if bt143.2.2 = 0 then ((rows_Show.f bt143.1).bind fun t148 => ((rows_Parse.f k t148).bind fun bt149 => (if bt149.2.2 = 0 then (cubitlaw7_RowsBack.j0 k bt143.1 bt149.1 ((bt149.1.length : Int) != (bt143.1.length : Int))) else (cubitlaw7_RowsBack.j0 k bt143.1 bt149.1 true)))) else (if (bt143.1.length : Int) = 0 then (some true) else (some false))))) else (some false))
theorem cubitlaw7_RowsBack.mono_l : ∀ k, (∀ y0 y1 y2, LeO (cubitlaw7_RowsBack.j0 k y0 y1 y2) (cubitlaw7_RowsBack.j0 (k + 1) y0 y1 y2)) ∧ (∀ y0 y1 y2, LeO (cubitlaw7_RowsBack.l0 k y0 y1 y2) (cubitlaw7_RowsBack.l0 (k + 1) y0 y1 y2)) ∧ (∀ y0 y1 y2 y3, LeO (cubitlaw7_RowsBack.j2 k y0 y1 y2 y3) (cubitlaw7_RowsBack.j2 (k + 1) y0 y1 y2 y3))
  | 0 => ⟨fun _ _ _ r h => by simp [cubitlaw7_RowsBack.j0] at h, fun _ _ _ r h => by simp [cubitlaw7_RowsBack.l0] at h, fun _ _ _ _ r h => by simp [cubitlaw7_RowsBack.j2] at h⟩
  | k + 1 => by
    obtain ⟨ih0, ih1, ih2⟩ := cubitlaw7_RowsBack.mono_l k
    refine ⟨?_, ?_, ?_⟩
    · intro y0 y1 y2
      unfold cubitlaw7_RowsBack.j0
      repeat' first
      | (with_reducible exact ih0 _ _ _)
      | (with_reducible exact ih1 _ _ _)
      | (with_reducible exact ih2 _ _ _ _)
      | (with_reducible exact cubitlaw7_awake.mono _)
      | (with_reducible exact cubitlaw7_texts.mono _ _ _)
      | (with_reducible exact rows_Parse.mono _ _)
      | (with_reducible exact LeO.refl _)
      | (with_reducible exact LeO.none _)
      | (with_reducible refine LeO.ite ?_ ?_)
      | (with_reducible refine LeO.bind ?_ (fun _ => ?_))
      | exact ih0 _ _ _
      | exact ih1 _ _ _
      | exact ih2 _ _ _ _
      | exact cubitlaw7_awake.mono _
      | exact cubitlaw7_texts.mono _ _ _
      | exact rows_Parse.mono _ _
      | exact LeO.none _
      | refine LeO.ite ?_ ?_
      | refine LeO.bind ?_ (fun _ => ?_)
    · intro y0 y1 y2
      unfold cubitlaw7_RowsBack.l0
      repeat' first
      | (with_reducible exact ih0 _ _ _)
      | (with_reducible exact ih1 _ _ _)
      | (with_reducible exact ih2 _ _ _ _)
      | (with_reducible exact cubitlaw7_awake.mono _)
      | (with_reducible exact cubitlaw7_texts.mono _ _ _)
      | (with_reducible exact rows_Parse.mono _ _)
      | (with_reducible exact LeO.refl _)
      | (with_reducible exact LeO.none _)
      | (with_reducible refine LeO.ite ?_ ?_)
      | (with_reducible refine LeO.bind ?_ (fun _ => ?_))
      | exact ih0 _ _ _
      | exact ih1 _ _ _
      | exact ih2 _ _ _ _
      | exact cubitlaw7_awake.mono _
      | exact cubitlaw7_texts.mono _ _ _
      | exact rows_Parse.mono _ _
      | exact LeO.none _
      | refine LeO.ite ?_ ?_
      | refine LeO.bind ?_ (fun _ => ?_)
    · intro y0 y1 y2 y3
      unfold cubitlaw7_RowsBack.j2
      repeat' first
      | (with_reducible exact ih0 _ _ _)
      | (with_reducible exact ih1 _ _ _)
      | (with_reducible exact ih2 _ _ _ _)
      | (with_reducible exact cubitlaw7_awake.mono _)
      | (with_reducible exact cubitlaw7_texts.mono _ _ _)
      | (with_reducible exact rows_Parse.mono _ _)
      | (with_reducible exact LeO.refl _)
      | (with_reducible exact LeO.none _)
      | (with_reducible refine LeO.ite ?_ ?_)
      | (with_reducible refine LeO.bind ?_ (fun _ => ?_))
      | exact ih0 _ _ _
      | exact ih1 _ _ _
      | exact ih2 _ _ _ _
      | exact cubitlaw7_awake.mono _
      | exact cubitlaw7_texts.mono _ _ _
      | exact rows_Parse.mono _ _
      | exact LeO.none _
      | refine LeO.ite ?_ ?_
      | refine LeO.bind ?_ (fun _ => ?_)
theorem cubitlaw7_RowsBack.mono : ∀ a0 k, LeO (cubitlaw7_RowsBack.f k a0) (cubitlaw7_RowsBack.f (k + 1) a0) := by
  intro a0 k
  obtain ⟨ih0, ih1, ih2⟩ := cubitlaw7_RowsBack.mono_l k
  unfold cubitlaw7_RowsBack.f
  repeat' first
      | (with_reducible exact ih0 _ _ _)
      | (with_reducible exact ih1 _ _ _)
      | (with_reducible exact ih2 _ _ _ _)
      | (with_reducible exact cubitlaw7_awake.mono _)
      | (with_reducible exact cubitlaw7_texts.mono _ _ _)
      | (with_reducible exact rows_Parse.mono _ _)
      | (with_reducible exact LeO.refl _)
      | (with_reducible exact LeO.none _)
      | (with_reducible refine LeO.ite ?_ ?_)
      | (with_reducible refine LeO.bind ?_ (fun _ => ?_))
      | exact ih0 _ _ _
      | exact ih1 _ _ _
      | exact ih2 _ _ _ _
      | exact cubitlaw7_awake.mono _
      | exact cubitlaw7_texts.mono _ _ _
      | exact rows_Parse.mono _ _
      | exact LeO.none _
      | refine LeO.ite ?_ ?_
      | refine LeO.bind ?_ (fun _ => ?_)
set_option maxHeartbeats 8000000 in
set_option maxRecDepth 100000 in
theorem cubitlaw7_RowsBack.calls (k : Nat) (a0 : ByteArray) (r : Bool) (w : World) (h : cubitlaw7_RowsBack.f k a0 = some r) (hT : r = true) (hG : Glob w) :
    Calls Tryd.prog 3 #[.string a0] w fun e w' => e = .returned (.bool r) ∧ Below w.heap.size w w' := by
  have HB := Aside0.mk (Below.refl w.heap.size w)
  subst hT
  have H : ((cubitlaw7_awake.f k).bind fun t142 => (if t142 = true then (if (a0.size : Int) > 2000 then (some true) else ((rows_Parse.f k a0).bind fun bt143 => (if bt143.2.2 = 0 then ((rows_Show.f bt143.1).bind fun t148 => ((rows_Parse.f k t148).bind fun bt149 => (if bt149.2.2 = 0 then (cubitlaw7_RowsBack.j0 k bt143.1 bt149.1 ((bt149.1.length : Int) != (bt143.1.length : Int))) else (cubitlaw7_RowsBack.j0 k bt143.1 bt149.1 true)))) else (if (bt143.1.length : Int) = 0 then (some true) else (some false))))) else (some false))) = some true := h
  clear h
  have HG := Aside0.mk hG
  clear hG
  replace H := Option.bind_eq_some_iff.mp H
  obtain ⟨t142, A20, H⟩ := H
  replace H : (if t142 = true then (if (a0.size : Int) > 2000 then (some true) else ((rows_Parse.f k a0).bind fun bt143 => (if bt143.2.2 = 0 then ((rows_Show.f bt143.1).bind fun t148 => ((rows_Parse.f k t148).bind fun bt149 => (if bt149.2.2 = 0 then (cubitlaw7_RowsBack.j0 k bt143.1 bt149.1 ((bt149.1.length : Int) != (bt143.1.length : Int))) else (cubitlaw7_RowsBack.j0 k bt143.1 bt149.1 true)))) else (if (bt143.1.length : Int) = 0 then (some true) else (some false))))) else (some false)) = some true := H
  have A2 := Aside0.mk A20
  clear A20
  by_cases c3 : t142 = true
  · subst c3
    have H1 : (if (a0.size : Int) > 2000 then (some true) else ((rows_Parse.f k a0).bind fun bt143 => (if bt143.2.2 = 0 then ((rows_Show.f bt143.1).bind fun t148 => ((rows_Parse.f k t148).bind fun bt149 => (if bt149.2.2 = 0 then (cubitlaw7_RowsBack.j0 k bt143.1 bt149.1 ((bt149.1.length : Int) != (bt143.1.length : Int))) else (cubitlaw7_RowsBack.j0 k bt143.1 bt149.1 true)))) else (if (bt143.1.length : Int) = 0 then (some true) else (some false))))) = some true := by (rw [if_pos rfl] at H); first | done | exact H
    clear H
    have H := H1
    clear H1
    by_cases c4 : (a0.size : Int) > 2000
    · rw [if_pos c4] at H
      have c4b0 : decide (2000 < (a0.size : Int)) = true := decide_eq_true c4
      have c4b1 : decide (2000 < a0.size) = true := decide_eq_true (by omega)
      clear c4
      clear H
      go_enter Tryd.func3, Tryd.ntmps3
      go_wp2_with (first | (go_at_call 19; (with_reducible refine (cubitlaw7_awake.calls k  true _ A2.out rfl ?side1).mono ?_); (case side1 => exact Glob.below HG.out (by repeat (first | (with_reducible first | exact HB.out | apply below_alloc | apply pw_below_drewN | apply below_drew1) | exact HB.out))); rintro e w5 ⟨rfl, hb⟩; have n0_ := Aside0.mk (below_step (by repeat (first | (with_reducible first | exact HB.out | apply below_alloc | apply pw_below_drewN | apply below_drew1) | exact HB.out)) hb); clear HB; have HB := n0_; clear n0_; (try clear hb); (try clear hb2); (try clear hk); (try clear hi)))
      repeat (go_quiet (first | (go_at_call 19; (with_reducible refine (cubitlaw7_awake.calls k  true _ A2.out rfl ?side1).mono ?_); (case side1 => exact Glob.below HG.out (by repeat (first | (with_reducible first | exact HB.out | apply below_alloc | apply pw_below_drewN | apply below_drew1) | exact HB.out))); rintro e w5 ⟨rfl, hb⟩; have n0_ := Aside0.mk (below_step (by repeat (first | (with_reducible first | exact HB.out | apply below_alloc | apply pw_below_drewN | apply below_drew1) | exact HB.out)) hb); clear HB; have HB := n0_; clear n0_; (try clear hb); (try clear hb2); (try clear hk); (try clear hi))); try go_wp2_with (first | (go_at_call 19; (with_reducible refine (cubitlaw7_awake.calls k  true _ A2.out rfl ?side1).mono ?_); (case side1 => exact Glob.below HG.out (by repeat (first | (with_reducible first | exact HB.out | apply below_alloc | apply pw_below_drewN | apply below_drew1) | exact HB.out))); rintro e w5 ⟨rfl, hb⟩; have n0_ := Aside0.mk (below_step (by repeat (first | (with_reducible first | exact HB.out | apply below_alloc | apply pw_below_drewN | apply below_drew1) | exact HB.out)) hb); clear HB; have HB := n0_; clear n0_; (try clear hb); (try clear hb2); (try clear hk); (try clear hi))))
      go_ret
      exact ⟨by first | rfl | (simp [errW_none, errW_some] <;> rfl) | (simp [*, errW_none, errW_some] <;> rfl), by repeat (first | (with_reducible first | exact HB.out | apply below_alloc | apply pw_below_drewN | apply below_drew1) | exact HB.out)⟩
    · rw [if_neg c4] at H
      have c4b0 : decide (2000 < (a0.size : Int)) = false := decide_eq_false c4
      have c4b1 : decide (2000 < a0.size) = false := decide_eq_false (by omega)
      clear c4
      replace H := Option.bind_eq_some_iff.mp H
      obtain ⟨⟨t143, t144, t145⟩, A60, H⟩ := H
      replace H : (if t145 = 0 then ((rows_Show.f t143).bind fun t148 => ((rows_Parse.f k t148).bind fun bt149 => (if bt149.2.2 = 0 then (cubitlaw7_RowsBack.j0 k t143 bt149.1 ((bt149.1.length : Int) != (t143.length : Int))) else (cubitlaw7_RowsBack.j0 k t143 bt149.1 true)))) else (if (t143.length : Int) = 0 then (some true) else (some false))) = some true := H
      have A6 := Aside0.mk A60
      clear A60
      by_cases c7 : t145 = 0
      · rw [if_pos c7] at H
        have c7b0 : (t145 == 0) = true := beq_iff_eq.mpr c7
        have c7b1 : (t145 != 0) = false := bne_eq_false_iff_eq.mpr c7
        clear c7
        replace H := Option.bind_eq_some_iff.mp H
        obtain ⟨t148, A80, H⟩ := H
        replace H : ((rows_Parse.f k t148).bind fun bt149 => (if bt149.2.2 = 0 then (cubitlaw7_RowsBack.j0 k t143 bt149.1 ((bt149.1.length : Int) != (t143.length : Int))) else (cubitlaw7_RowsBack.j0 k t143 bt149.1 true))) = some true := H
        have A8 := Aside0.mk A80
        clear A80
        replace H := Option.bind_eq_some_iff.mp H
        obtain ⟨⟨t149, t150, t151⟩, A90, H⟩ := H
        replace H : (if t151 = 0 then (cubitlaw7_RowsBack.j0 k t143 t149 ((t149.length : Int) != (t143.length : Int))) else (cubitlaw7_RowsBack.j0 k t143 t149 true)) = some true := H
        have A9 := Aside0.mk A90
        clear A90
        have HC10 := Aside0.mk H
        clear H
        go_enter Tryd.func3, Tryd.ntmps3
        go_upto_region 9 with (first | (go_at_call 19; (with_reducible refine (cubitlaw7_awake.calls k  true _ A2.out rfl ?side1).mono ?_); (case side1 => exact Glob.below HG.out (by repeat (first | (with_reducible first | exact HB.out | apply below_alloc | apply pw_below_drewN | apply below_drew1) | exact HB.out))); rintro e w11 ⟨rfl, hb⟩; have n0_ := Aside0.mk (below_step (by repeat (first | (with_reducible first | exact HB.out | apply below_alloc | apply pw_below_drewN | apply below_drew1) | exact HB.out)) hb); clear HB; have HB := n0_; clear n0_; (try clear hb); (try clear hb2); (try clear hk); (try clear hi)) | (go_at_call 20; (with_reducible refine (rows_Parse.calls k a0 t143 t144 t145 _ A6.out ?side1).mono ?_); (case side1 => exact Glob.below HG.out (by repeat (first | (with_reducible first | exact HB.out | apply below_alloc | apply pw_below_drewN | apply below_drew1) | exact HB.out))); rintro e w12 ⟨v146, rfl, ho0, hb⟩; have n0_ := Aside0.mk (Kd.S_lower ho0 (below_size (by repeat (first | (with_reducible first | exact HB.out | apply below_alloc | apply pw_below_drewN | apply below_drew1) | exact HB.out)))); have n1_ := Aside0.mk (below_step (by repeat (first | (with_reducible first | exact HB.out | apply below_alloc | apply pw_below_drewN | apply below_drew1) | exact HB.out)) hb); clear HB; have HO147 := n0_; have HB := n1_; clear n0_ n1_; (try clear hb); (try clear hb2); (try clear hk); (try clear hi); (try clear ho0); obtain ⟨Ao13, co13, eo13⟩ := Kd.S_slice HO147.out; subst eo13) | (go_at_call 21; (with_reducible refine (rows_Show.calls _ _ t143 t148 _ ?side1 ?side2 A8.out ?side3).mono ?_); (case side1 => repeat (first | exact (Kd.S_reads' HO147.out).2.2 | (with_reducible refine Kd.C_alloc ?_ _) | (with_reducible refine Kd.C_drewN ?_ _) | (with_reducible refine Kd.C_drew ?_))); (case side2 => exact (Kd.S_reads' HO147.out).2.1); (case side3 => exact Glob.below HG.out (by repeat (first | (with_reducible first | exact HB.out | apply below_alloc | apply pw_below_drewN | apply below_drew1) | exact HB.out))); rintro e w14 ⟨rfl, hb⟩; have n0_ := Aside0.mk (Kd.S_below (by (with_reducible repeat (first | apply Kd.S_alloc | apply Kd.S_drewN | apply Kd.S_drew)); exact HO147.out) hb); have n1_ := Aside0.mk (below_step (by repeat (first | (with_reducible first | exact HB.out | apply below_alloc | apply pw_below_drewN | apply below_drew1) | exact HB.out)) hb); clear HO147; clear HB; have HO147 := n0_; have HB := n1_; clear n0_ n1_; (try clear hb); (try clear hb2); (try clear hk); (try clear hi)) | (go_at_call 20; (with_reducible refine (rows_Parse.calls k t148 t149 t150 t151 _ A9.out ?side1).mono ?_); (case side1 => exact Glob.below HG.out (by repeat (first | (with_reducible first | exact HB.out | apply below_alloc | apply pw_below_drewN | apply below_drew1) | exact HB.out))); rintro e w15 ⟨v152, rfl, ho0, hb⟩; have n0_ := Aside0.mk (Kd.S_elder' (by (with_reducible repeat (first | apply Kd.S_alloc | apply Kd.S_drewN | apply Kd.S_drew)); exact HO147.out) (Kd.S_base ho0) hb); have n1_ := Aside0.mk (Kd.S_lower (Kd.S_new' ho0 (Kd.S_lt (by (with_reducible repeat (first | apply Kd.S_alloc | apply Kd.S_drewN | apply Kd.S_drew)); exact HO147.out))) (below_size (by repeat (first | (with_reducible first | exact HB.out | apply below_alloc | apply pw_below_drewN | apply below_drew1) | exact HB.out)))); have n2_ := Aside0.mk (below_step (by repeat (first | (with_reducible first | exact HB.out | apply below_alloc | apply pw_below_drewN | apply below_drew1) | exact HB.out)) hb); clear HO147; clear HB; have HO147 := n0_; have HO153 := n1_; have HB := n2_; clear n0_ n1_ n2_; (try clear hb); (try clear hb2); (try clear hk); (try clear hi); (try clear ho0)))
        repeat (go_quiet (first | (go_at_call 19; (with_reducible refine (cubitlaw7_awake.calls k  true _ A2.out rfl ?side1).mono ?_); (case side1 => exact Glob.below HG.out (by repeat (first | (with_reducible first | exact HB.out | apply below_alloc | apply pw_below_drewN | apply below_drew1) | exact HB.out))); rintro e w11 ⟨rfl, hb⟩; have n0_ := Aside0.mk (below_step (by repeat (first | (with_reducible first | exact HB.out | apply below_alloc | apply pw_below_drewN | apply below_drew1) | exact HB.out)) hb); clear HB; have HB := n0_; clear n0_; (try clear hb); (try clear hb2); (try clear hk); (try clear hi)) | (go_at_call 20; (with_reducible refine (rows_Parse.calls k a0 t143 t144 t145 _ A6.out ?side1).mono ?_); (case side1 => exact Glob.below HG.out (by repeat (first | (with_reducible first | exact HB.out | apply below_alloc | apply pw_below_drewN | apply below_drew1) | exact HB.out))); rintro e w12 ⟨v146, rfl, ho0, hb⟩; have n0_ := Aside0.mk (Kd.S_lower ho0 (below_size (by repeat (first | (with_reducible first | exact HB.out | apply below_alloc | apply pw_below_drewN | apply below_drew1) | exact HB.out)))); have n1_ := Aside0.mk (below_step (by repeat (first | (with_reducible first | exact HB.out | apply below_alloc | apply pw_below_drewN | apply below_drew1) | exact HB.out)) hb); clear HB; have HO147 := n0_; have HB := n1_; clear n0_ n1_; (try clear hb); (try clear hb2); (try clear hk); (try clear hi); (try clear ho0); obtain ⟨Ao13, co13, eo13⟩ := Kd.S_slice HO147.out; subst eo13) | (go_at_call 21; (with_reducible refine (rows_Show.calls _ _ t143 t148 _ ?side1 ?side2 A8.out ?side3).mono ?_); (case side1 => repeat (first | exact (Kd.S_reads' HO147.out).2.2 | (with_reducible refine Kd.C_alloc ?_ _) | (with_reducible refine Kd.C_drewN ?_ _) | (with_reducible refine Kd.C_drew ?_))); (case side2 => exact (Kd.S_reads' HO147.out).2.1); (case side3 => exact Glob.below HG.out (by repeat (first | (with_reducible first | exact HB.out | apply below_alloc | apply pw_below_drewN | apply below_drew1) | exact HB.out))); rintro e w14 ⟨rfl, hb⟩; have n0_ := Aside0.mk (Kd.S_below (by (with_reducible repeat (first | apply Kd.S_alloc | apply Kd.S_drewN | apply Kd.S_drew)); exact HO147.out) hb); have n1_ := Aside0.mk (below_step (by repeat (first | (with_reducible first | exact HB.out | apply below_alloc | apply pw_below_drewN | apply below_drew1) | exact HB.out)) hb); clear HO147; clear HB; have HO147 := n0_; have HB := n1_; clear n0_ n1_; (try clear hb); (try clear hb2); (try clear hk); (try clear hi)) | (go_at_call 20; (with_reducible refine (rows_Parse.calls k t148 t149 t150 t151 _ A9.out ?side1).mono ?_); (case side1 => exact Glob.below HG.out (by repeat (first | (with_reducible first | exact HB.out | apply below_alloc | apply pw_below_drewN | apply below_drew1) | exact HB.out))); rintro e w15 ⟨v152, rfl, ho0, hb⟩; have n0_ := Aside0.mk (Kd.S_elder' (by (with_reducible repeat (first | apply Kd.S_alloc | apply Kd.S_drewN | apply Kd.S_drew)); exact HO147.out) (Kd.S_base ho0) hb); have n1_ := Aside0.mk (Kd.S_lower (Kd.S_new' ho0 (Kd.S_lt (by (with_reducible repeat (first | apply Kd.S_alloc | apply Kd.S_drewN | apply Kd.S_drew)); exact HO147.out))) (below_size (by repeat (first | (with_reducible first | exact HB.out | apply below_alloc | apply pw_below_drewN | apply below_drew1) | exact HB.out)))); have n2_ := Aside0.mk (below_step (by repeat (first | (with_reducible first | exact HB.out | apply below_alloc | apply pw_below_drewN | apply below_drew1) | exact HB.out)) hb); clear HO147; clear HB; have HO147 := n0_; have HO153 := n1_; have HB := n2_; clear n0_ n1_ n2_; (try clear hb); (try clear hb2); (try clear hk); (try clear hi); (try clear ho0))); go_upto_region 9 with (first | (go_at_call 19; (with_reducible refine (cubitlaw7_awake.calls k  true _ A2.out rfl ?side1).mono ?_); (case side1 => exact Glob.below HG.out (by repeat (first | (with_reducible first | exact HB.out | apply below_alloc | apply pw_below_drewN | apply below_drew1) | exact HB.out))); rintro e w11 ⟨rfl, hb⟩; have n0_ := Aside0.mk (below_step (by repeat (first | (with_reducible first | exact HB.out | apply below_alloc | apply pw_below_drewN | apply below_drew1) | exact HB.out)) hb); clear HB; have HB := n0_; clear n0_; (try clear hb); (try clear hb2); (try clear hk); (try clear hi)) | (go_at_call 20; (with_reducible refine (rows_Parse.calls k a0 t143 t144 t145 _ A6.out ?side1).mono ?_); (case side1 => exact Glob.below HG.out (by repeat (first | (with_reducible first | exact HB.out | apply below_alloc | apply pw_below_drewN | apply below_drew1) | exact HB.out))); rintro e w12 ⟨v146, rfl, ho0, hb⟩; have n0_ := Aside0.mk (Kd.S_lower ho0 (below_size (by repeat (first | (with_reducible first | exact HB.out | apply below_alloc | apply pw_below_drewN | apply below_drew1) | exact HB.out)))); have n1_ := Aside0.mk (below_step (by repeat (first | (with_reducible first | exact HB.out | apply below_alloc | apply pw_below_drewN | apply below_drew1) | exact HB.out)) hb); clear HB; have HO147 := n0_; have HB := n1_; clear n0_ n1_; (try clear hb); (try clear hb2); (try clear hk); (try clear hi); (try clear ho0); obtain ⟨Ao13, co13, eo13⟩ := Kd.S_slice HO147.out; subst eo13) | (go_at_call 21; (with_reducible refine (rows_Show.calls _ _ t143 t148 _ ?side1 ?side2 A8.out ?side3).mono ?_); (case side1 => repeat (first | exact (Kd.S_reads' HO147.out).2.2 | (with_reducible refine Kd.C_alloc ?_ _) | (with_reducible refine Kd.C_drewN ?_ _) | (with_reducible refine Kd.C_drew ?_))); (case side2 => exact (Kd.S_reads' HO147.out).2.1); (case side3 => exact Glob.below HG.out (by repeat (first | (with_reducible first | exact HB.out | apply below_alloc | apply pw_below_drewN | apply below_drew1) | exact HB.out))); rintro e w14 ⟨rfl, hb⟩; have n0_ := Aside0.mk (Kd.S_below (by (with_reducible repeat (first | apply Kd.S_alloc | apply Kd.S_drewN | apply Kd.S_drew)); exact HO147.out) hb); have n1_ := Aside0.mk (below_step (by repeat (first | (with_reducible first | exact HB.out | apply below_alloc | apply pw_below_drewN | apply below_drew1) | exact HB.out)) hb); clear HO147; clear HB; have HO147 := n0_; have HB := n1_; clear n0_ n1_; (try clear hb); (try clear hb2); (try clear hk); (try clear hi)) | (go_at_call 20; (with_reducible refine (rows_Parse.calls k t148 t149 t150 t151 _ A9.out ?side1).mono ?_); (case side1 => exact Glob.below HG.out (by repeat (first | (with_reducible first | exact HB.out | apply below_alloc | apply pw_below_drewN | apply below_drew1) | exact HB.out))); rintro e w15 ⟨v152, rfl, ho0, hb⟩; have n0_ := Aside0.mk (Kd.S_elder' (by (with_reducible repeat (first | apply Kd.S_alloc | apply Kd.S_drewN | apply Kd.S_drew)); exact HO147.out) (Kd.S_base ho0) hb); have n1_ := Aside0.mk (Kd.S_lower (Kd.S_new' ho0 (Kd.S_lt (by (with_reducible repeat (first | apply Kd.S_alloc | apply Kd.S_drewN | apply Kd.S_drew)); exact HO147.out))) (below_size (by repeat (first | (with_reducible first | exact HB.out | apply below_alloc | apply pw_below_drewN | apply below_drew1) | exact HB.out)))); have n2_ := Aside0.mk (below_step (by repeat (first | (with_reducible first | exact HB.out | apply below_alloc | apply pw_below_drewN | apply below_drew1) | exact HB.out)) hb); clear HO147; clear HB; have HO147 := n0_; have HO153 := n1_; have HB := n2_; clear n0_ n1_ n2_; (try clear hb); (try clear hb2); (try clear hk); (try clear hi); (try clear ho0))))
        (try simp only [Act.put, List.setIfInBounds_toArray, List.set_cons_zero, List.set_cons_succ])
        go_cut [41] (fun v41 wc => ∃ (kq : Nat) (x41_9 : Bool), v41 = .bool x41_9 ∧ Aside0 (cubitlaw7_RowsBack.j0 kq t143 t149 x41_9 = some true) ∧ Aside0 (kq ≤ k) ∧ Aside0 (Kd.S k31 31 wc w.heap.size (fun k_ => some k_ ≠ (v152 : Value).ownBlock) (.slice Ao13 t143.length co13) t143) ∧ Aside0 (Kd.S k31 31 wc w.heap.size (fun k_ => some k_ ≠ ((.slice Ao13 t143.length co13) : Value).ownBlock) v152 t149) ∧ Aside0 (Below w.heap.size w wc))
        case first =>
          have H := HC10.out
          clear HC10
          by_cases c16 : t151 = 0
          · rw [if_pos c16] at H
            have c16b0 : (t151 == 0) = true := beq_iff_eq.mpr c16
            have c16b1 : (t151 != 0) = false := bne_eq_false_iff_eq.mpr c16
            clear c16
            (first | rw [c16b0] | (simp only [i64_w, i32_w]; rw [c16b0]) | skip)
            have H' := Aside0.mk H
            clear H
            obtain ⟨Ao17, co17, eo17⟩ := Kd.S_slice HO153.out
            subst eo17
            go_wp2
            repeat (go_quiet (fail); try go_wp2)
            go_meet
            case rel => exact ⟨_, (((t149.length : Int) != (t143.length : Int))), (by first | rfl | (simp; done) | (simp only [i64_w, i32_w]; done) | (simp [*]; done)), H', ⟨by first | omega | exact Nat.le_refl _⟩, ⟨by (with_reducible repeat (first | apply Kd.S_alloc | apply Kd.S_drewN | apply Kd.S_drew)); exact Kd.S_mono HO147.out (fun _ hk => hk.2)⟩, ⟨by (with_reducible repeat (first | apply Kd.S_alloc | apply Kd.S_drewN | apply Kd.S_drew)); exact Kd.S_mono HO153.out (fun _ hk => hk.2)⟩, ⟨by repeat (first | (with_reducible first | exact HB.out | apply below_alloc | apply pw_below_drewN | apply below_drew1) | exact HB.out)⟩⟩
          · rw [if_neg c16] at H
            have c16b0 : (t151 == 0) = false := beq_eq_false_iff_ne.mpr c16
            have c16b1 : (t151 != 0) = true := bne_iff_ne.mpr c16
            (first | rw [c16b0] | (simp only [i64_w, i32_w]; rw [c16b0]) | skip)
            have H' := Aside0.mk H
            clear H
            go_wp2
            repeat (go_quiet (fail); try go_wp2)
            go_meet
            case rel => exact ⟨_, (true), (by first | rfl | (simp; done) | (simp only [i64_w, i32_w]; done) | (simp [*]; done)), H', ⟨by first | omega | exact Nat.le_refl _⟩, ⟨by (with_reducible repeat (first | apply Kd.S_alloc | apply Kd.S_drewN | apply Kd.S_drew)); exact Kd.S_mono HO147.out (fun _ hk => hk.2)⟩, ⟨by (with_reducible repeat (first | apply Kd.S_alloc | apply Kd.S_drewN | apply Kd.S_drew)); exact Kd.S_mono HO153.out (fun _ hk => hk.2)⟩, ⟨by repeat (first | (with_reducible first | exact HB.out | apply below_alloc | apply pw_below_drewN | apply below_drew1) | exact HB.out)⟩⟩
        case rest =>
          clear HC10
          try clear c1
          try clear p2
          try clear c3
          try clear c4
          try clear c4b0
          try clear c4b1
          try clear c7
          try clear c7b0
          try clear c7b1
          try clear c16
          try clear c16b0
          try clear c16b1
          obtain ⟨kq, x41_9, rfl, HA, HJ9, HO_3, HO_6, HB⟩ := hcut
          cases kq with
          | zero => exact absurd HA.out (by simp [cubitlaw7_RowsBack.j0])
          | succ kj9 =>
            have H := HA.out
            clear HA
            simp only [cubitlaw7_RowsBack.j0] at H
            by_cases c18 : x41_9 = true
            · subst c18
              have H1 : (some false) = some true := by (rw [if_pos rfl] at H); first | done | exact H
              clear H
              have H := H1
              clear H1
              exact absurd H (by simp)
            · replace c18 := Bool.eq_false_iff.mpr c18
              subst c18
              have H1 : (cubitlaw7_RowsBack.l0 kj9 t143 t149 0) = some true := by (rw [if_neg (show ¬ (false = true) by decide)] at H); first | done | exact H
              clear H
              have H := H1
              clear H1
              have H' := Aside0.mk H
              clear H
              go_wp2
              repeat (go_quiet (fail); try go_wp2)
              go_loopg [9] kj9 (fun kq v9 w' => ∃ (x9_2 : Int), v9 = .int .i64 x9_2 ∧ Aside0 (cubitlaw7_RowsBack.l0 kq t143 t149 x9_2 = some true) ∧ Aside0 (kq ≤ kj9) ∧ Aside0 (Kd.S k31 31 w' w.heap.size (fun k_ => some k_ ≠ (v152 : Value).ownBlock) (.slice Ao13 t143.length co13) t143) ∧ Aside0 (Kd.S k31 31 w' w.heap.size (fun k_ => some k_ ≠ ((.slice Ao13 t143.length co13) : Value).ownBlock) v152 t149) ∧ Aside0 (Below w.heap.size w w'))
              case atStart => exact ⟨(0), (by first | rfl | (simp; done) | (simp only [i64_w, i32_w]; done) | (simp [*]; done)), H', ⟨Nat.le_refl _⟩, ⟨by (with_reducible repeat (first | apply Kd.S_alloc | apply Kd.S_drewN | apply Kd.S_drew)); exact HO_3.out⟩, ⟨by (with_reducible repeat (first | apply Kd.S_alloc | apply Kd.S_drewN | apply Kd.S_drew)); exact HO_6.out⟩, ⟨by repeat (first | (with_reducible first | exact HB.out | apply below_alloc | apply pw_below_drewN | apply below_drew1) | exact HB.out)⟩⟩
              case round =>
                clear H'
                try clear c1
                try clear p2
                try clear c3
                try clear c4
                try clear c4b0
                try clear c4b1
                try clear c7
                try clear c7b0
                try clear c7b1
                try clear c16
                try clear c16b0
                try clear c16b1
                try clear c18
                try clear p2
                obtain ⟨x9_2, rfl, HA, HK2, HO_3, HO_6, HB⟩ := hrel
                cases gk with
                | zero => exact absurd HA.out (by simp [cubitlaw7_RowsBack.l0])
                | succ k2 =>
                  have H := HA.out
                  clear HA
                  simp only [cubitlaw7_RowsBack.l0] at H
                  by_cases c19 : x9_2 < (t143.length : Int)
                  · rw [if_pos c19] at H
                    have c19b0 : decide (x9_2 < (t143.length : Int)) = true := decide_eq_true c19
                    clear c19
                    have HC20 := Aside0.mk H
                    clear H
                    go_upto_region 14 with (fail)
                    repeat (go_quiet (fail); go_upto_region 14 with (fail))
                    go_cut [69] (fun v69 wc => ∃ (kq : Nat) (x69_19 : Bool), v69 = .bool x69_19 ∧ Aside0 (cubitlaw7_RowsBack.j2 kq t143 t149 x9_2 x69_19 = some true) ∧ Aside0 (kq ≤ k2) ∧ Aside0 (Kd.S k31 31 wc w.heap.size (fun k_ => some k_ ≠ (v152 : Value).ownBlock) (.slice Ao13 t143.length co13) t143) ∧ Aside0 (Kd.S k31 31 wc w.heap.size (fun k_ => some k_ ≠ ((.slice Ao13 t143.length co13) : Value).ownBlock) v152 t149) ∧ Aside0 (Below w.heap.size w wc))
                    case first =>
                      have H := HC20.out
                      clear HC20
                      by_cases c21 : 0 ≤ x9_2
                      · rw [if_pos c21] at H
                        have c21b0 : decide (0 ≤ x9_2) = true := decide_eq_true c21
                        clear c21
                        (first | rw [c21b0] | (simp only [i64_w, i32_w]; rw [c21b0]) | skip)
                        by_cases c22 : x9_2 < (t149.length : Int)
                        · rw [if_pos c22] at H
                          have c22b0 : decide (x9_2 < (t149.length : Int)) = true := decide_eq_true c22
                          clear c22
                          replace H := Option.bind_eq_some_iff.mp H
                          obtain ⟨t156, A230, H⟩ := H
                          replace H : (if t156 = true then (cubitlaw7_RowsBack.j2 k2 t143 t149 x9_2 (((rd_T31 t149 x9_2).f0) != (wrap64 (x9_2 + 1)))) else (cubitlaw7_RowsBack.j2 k2 t143 t149 x9_2 true)) = some true := H
                          have A23 := Aside0.mk A230
                          clear A230
                          by_cases c24 : t156 = true
                          · subst c24
                            have H1 : (cubitlaw7_RowsBack.j2 k2 t143 t149 x9_2 (((rd_T31 t149 x9_2).f0) != (wrap64 (x9_2 + 1)))) = some true := by (rw [if_pos rfl] at H); first | done | exact H
                            clear H
                            have H := H1
                            clear H1
                            have H' := Aside0.mk H
                            clear H
                            have p154 : 0 ≤ (x9_2 : Int) := of_decide_eq_true (by first | (with_reducible assumption) | assumption)
                            have q154 : x9_2 < (t143.length : Int) := of_decide_eq_true (by first | (with_reducible assumption) | assumption)
                            obtain ⟨ad154, A154_1, c154_1, e154, hx154_0, hx154_1, hl154_1, hi154_1⟩ := at_T31 (Kd.S_reads' HO_3.out).2.2 x9_2 p154 q154
                            cases e154
                            obtain ⟨ce154, hce154, hMe154, hcc154⟩ := Kd.S_get HO_3.out z31 x9_2 p154 (by first | exact q154 | exact of_decide_eq_true (by first | (with_reducible assumption) | assumption) | (have e_ := (Kd.S_reads' HO_3.out).1; omega))
                            obtain ⟨ve154_1, rfl, ge154_1⟩ := k31_openM hMe154
                            have hv154_1 := hcc154 1 _ rfl
                            rw [add_field _ _ 1 (by omega)] at hv154_1
                            replace hv154_1 := Option.some.inj (hv154_1.symm.trans hx154_1)
                            rw [hv154_1] at ge154_1
                            have HL154_1 := Aside0.mk (show Kd.R Kd.string 9 _ _ _ _ ((rd_T31 t143 x9_2).f1) from ge154_1)
                            clear hv154_1 ge154_1
                            clear hcc154 hce154
                            have HR154_1 := Aside0.mk hi154_1
                            have HC154_1 := Aside0.mk hl154_1
                            clear hi154_1 hl154_1
                            replace p154 := eq_true p154
                            replace q154 := eq_true q154
                            obtain ⟨Ao25, co25, eo25⟩ := Kd.S_slice HO_6.out
                            subst eo25
                            have p155 : 0 ≤ (x9_2 : Int) := of_decide_eq_true (by first | (with_reducible assumption) | assumption)
                            have q155 : x9_2 < (t149.length : Int) := of_decide_eq_true (by first | (with_reducible assumption) | assumption)
                            obtain ⟨ad155, A155_1, c155_1, e155, hx155_0, hx155_1, hl155_1, hi155_1⟩ := at_T31 (Kd.S_reads' HO_6.out).2.2 x9_2 p155 q155
                            cases e155
                            obtain ⟨ce155, hce155, hMe155, hcc155⟩ := Kd.S_get HO_6.out z31 x9_2 p155 (by first | exact q155 | exact of_decide_eq_true (by first | (with_reducible assumption) | assumption) | (have e_ := (Kd.S_reads' HO_6.out).1; omega))
                            obtain ⟨ve155_1, rfl, ge155_1⟩ := k31_openM hMe155
                            have hv155_1 := hcc155 1 _ rfl
                            rw [add_field _ _ 1 (by omega)] at hv155_1
                            replace hv155_1 := Option.some.inj (hv155_1.symm.trans hx155_1)
                            rw [hv155_1] at ge155_1
                            have HL155_1 := Aside0.mk (show Kd.R Kd.string 9 _ _ _ _ ((rd_T31 t149 x9_2).f1) from ge155_1)
                            clear hv155_1 ge155_1
                            clear hcc155 hce155
                            have HR155_1 := Aside0.mk hi155_1
                            have HC155_1 := Aside0.mk hl155_1
                            clear hi155_1 hl155_1
                            replace p155 := eq_true p155
                            replace q155 := eq_true q155
                            go_wp2_with (first | (go_at_call 22; (with_reducible refine (cubitlaw7_texts.calls k2 _ _ ((rd_T31 t143 x9_2).f1) _ _ ((rd_T31 t149 x9_2).f1) true _ ?side1 ?side2 ?side3 ?side4 A23.out ?side5).mono ?_); (case side1 => repeat (first | exact (by repeat (first | (with_reducible exact HR154_1.out) | (with_reducible refine Kd.C_alloc ?_ _) | (with_reducible refine Kd.C_drewN ?_ _) | (with_reducible refine Kd.C_drew ?_) | exact HR154_1.out)) | (with_reducible refine Kd.C_alloc ?_ _) | (with_reducible refine Kd.C_drewN ?_ _) | (with_reducible refine Kd.C_drew ?_))); (case side2 => exact HC154_1.out); (case side3 => repeat (first | exact (by repeat (first | (with_reducible exact HR155_1.out) | (with_reducible refine Kd.C_alloc ?_ _) | (with_reducible refine Kd.C_drewN ?_ _) | (with_reducible refine Kd.C_drew ?_) | exact HR155_1.out)) | (with_reducible refine Kd.C_alloc ?_ _) | (with_reducible refine Kd.C_drewN ?_ _) | (with_reducible refine Kd.C_drew ?_))); (case side4 => exact HC155_1.out); (case side5 => exact Glob.below HG.out (by repeat (first | (with_reducible first | exact HB.out | apply below_alloc | apply pw_below_drewN | apply below_drew1) | exact HB.out))); rintro e w' ⟨rfl, ⟨nd, rfl⟩⟩; (try first | exact ⟨rfl, _, World.drewN_drewN _ _ _⟩ | exact ⟨rfl, _, Eq.trans (World.drewN_drewN _ _ _) (congrArg (World.drewN _) (Nat.add_assoc _ _ _))⟩); have p157 : 0 ≤ (x9_2 : Int) := of_decide_eq_true (by first | (with_reducible assumption) | assumption); have q157 : x9_2 < (t149.length : Int) := of_decide_eq_true (by first | (with_reducible assumption) | assumption); obtain ⟨ad157, A157_1, c157_1, e157, hx157_0, hx157_1, hl157_1, hi157_1⟩ := at_T31 (Kd.S_reads' HO_6.out).2.2 x9_2 p157 q157; obtain rfl : ad155 = ad157 := (by injection e157); obtain ⟨ce157, hce157, hMe157, hcc157⟩ := Kd.S_get HO_6.out z31 x9_2 p157 (by first | exact q157 | exact of_decide_eq_true (by first | (with_reducible assumption) | assumption) | (have e_ := (Kd.S_reads' HO_6.out).1; omega)); obtain ⟨ve157_1, rfl, ge157_1⟩ := k31_openM hMe157; have hv157_1 := hcc157 1 _ rfl; rw [add_field _ _ 1 (by omega)] at hv157_1; replace hv157_1 := Option.some.inj (hv157_1.symm.trans hx157_1); rw [hv157_1] at ge157_1; have HL157_1 := Aside0.mk (show Kd.R Kd.string 9 _ _ _ _ ((rd_T31 t149 x9_2).f1) from ge157_1); clear hv157_1 ge157_1; clear hcc157 hce157; have HR157_1 := Aside0.mk hi157_1; have HC157_1 := Aside0.mk hl157_1; clear hi157_1 hl157_1; replace p157 := eq_true p157; replace q157 := eq_true q157; have ea_ := Option.some.inj (hx155_1.symm.trans hx157_1); injection ea_ with ea_ en_ ec_; subst ea_; subst ec_; clear en_))
                            repeat (go_quiet (first | (go_at_call 22; (with_reducible refine (cubitlaw7_texts.calls k2 _ _ ((rd_T31 t143 x9_2).f1) _ _ ((rd_T31 t149 x9_2).f1) true _ ?side1 ?side2 ?side3 ?side4 A23.out ?side5).mono ?_); (case side1 => repeat (first | exact (by repeat (first | (with_reducible exact HR154_1.out) | (with_reducible refine Kd.C_alloc ?_ _) | (with_reducible refine Kd.C_drewN ?_ _) | (with_reducible refine Kd.C_drew ?_) | exact HR154_1.out)) | (with_reducible refine Kd.C_alloc ?_ _) | (with_reducible refine Kd.C_drewN ?_ _) | (with_reducible refine Kd.C_drew ?_))); (case side2 => exact HC154_1.out); (case side3 => repeat (first | exact (by repeat (first | (with_reducible exact HR155_1.out) | (with_reducible refine Kd.C_alloc ?_ _) | (with_reducible refine Kd.C_drewN ?_ _) | (with_reducible refine Kd.C_drew ?_) | exact HR155_1.out)) | (with_reducible refine Kd.C_alloc ?_ _) | (with_reducible refine Kd.C_drewN ?_ _) | (with_reducible refine Kd.C_drew ?_))); (case side4 => exact HC155_1.out); (case side5 => exact Glob.below HG.out (by repeat (first | (with_reducible first | exact HB.out | apply below_alloc | apply pw_below_drewN | apply below_drew1) | exact HB.out))); rintro e w' ⟨rfl, ⟨nd, rfl⟩⟩; (try first | exact ⟨rfl, _, World.drewN_drewN _ _ _⟩ | exact ⟨rfl, _, Eq.trans (World.drewN_drewN _ _ _) (congrArg (World.drewN _) (Nat.add_assoc _ _ _))⟩); have p157 : 0 ≤ (x9_2 : Int) := of_decide_eq_true (by first | (with_reducible assumption) | assumption); have q157 : x9_2 < (t149.length : Int) := of_decide_eq_true (by first | (with_reducible assumption) | assumption); obtain ⟨ad157, A157_1, c157_1, e157, hx157_0, hx157_1, hl157_1, hi157_1⟩ := at_T31 (Kd.S_reads' HO_6.out).2.2 x9_2 p157 q157; obtain rfl : ad155 = ad157 := (by injection e157); obtain ⟨ce157, hce157, hMe157, hcc157⟩ := Kd.S_get HO_6.out z31 x9_2 p157 (by first | exact q157 | exact of_decide_eq_true (by first | (with_reducible assumption) | assumption) | (have e_ := (Kd.S_reads' HO_6.out).1; omega)); obtain ⟨ve157_1, rfl, ge157_1⟩ := k31_openM hMe157; have hv157_1 := hcc157 1 _ rfl; rw [add_field _ _ 1 (by omega)] at hv157_1; replace hv157_1 := Option.some.inj (hv157_1.symm.trans hx157_1); rw [hv157_1] at ge157_1; have HL157_1 := Aside0.mk (show Kd.R Kd.string 9 _ _ _ _ ((rd_T31 t149 x9_2).f1) from ge157_1); clear hv157_1 ge157_1; clear hcc157 hce157; have HR157_1 := Aside0.mk hi157_1; have HC157_1 := Aside0.mk hl157_1; clear hi157_1 hl157_1; replace p157 := eq_true p157; replace q157 := eq_true q157; have ea_ := Option.some.inj (hx155_1.symm.trans hx157_1); injection ea_ with ea_ en_ ec_; subst ea_; subst ec_; clear en_)); try go_wp2_with (first | (go_at_call 22; (with_reducible refine (cubitlaw7_texts.calls k2 _ _ ((rd_T31 t143 x9_2).f1) _ _ ((rd_T31 t149 x9_2).f1) true _ ?side1 ?side2 ?side3 ?side4 A23.out ?side5).mono ?_); (case side1 => repeat (first | exact (by repeat (first | (with_reducible exact HR154_1.out) | (with_reducible refine Kd.C_alloc ?_ _) | (with_reducible refine Kd.C_drewN ?_ _) | (with_reducible refine Kd.C_drew ?_) | exact HR154_1.out)) | (with_reducible refine Kd.C_alloc ?_ _) | (with_reducible refine Kd.C_drewN ?_ _) | (with_reducible refine Kd.C_drew ?_))); (case side2 => exact HC154_1.out); (case side3 => repeat (first | exact (by repeat (first | (with_reducible exact HR155_1.out) | (with_reducible refine Kd.C_alloc ?_ _) | (with_reducible refine Kd.C_drewN ?_ _) | (with_reducible refine Kd.C_drew ?_) | exact HR155_1.out)) | (with_reducible refine Kd.C_alloc ?_ _) | (with_reducible refine Kd.C_drewN ?_ _) | (with_reducible refine Kd.C_drew ?_))); (case side4 => exact HC155_1.out); (case side5 => exact Glob.below HG.out (by repeat (first | (with_reducible first | exact HB.out | apply below_alloc | apply pw_below_drewN | apply below_drew1) | exact HB.out))); rintro e w' ⟨rfl, ⟨nd, rfl⟩⟩; (try first | exact ⟨rfl, _, World.drewN_drewN _ _ _⟩ | exact ⟨rfl, _, Eq.trans (World.drewN_drewN _ _ _) (congrArg (World.drewN _) (Nat.add_assoc _ _ _))⟩); have p157 : 0 ≤ (x9_2 : Int) := of_decide_eq_true (by first | (with_reducible assumption) | assumption); have q157 : x9_2 < (t149.length : Int) := of_decide_eq_true (by first | (with_reducible assumption) | assumption); obtain ⟨ad157, A157_1, c157_1, e157, hx157_0, hx157_1, hl157_1, hi157_1⟩ := at_T31 (Kd.S_reads' HO_6.out).2.2 x9_2 p157 q157; obtain rfl : ad155 = ad157 := (by injection e157); obtain ⟨ce157, hce157, hMe157, hcc157⟩ := Kd.S_get HO_6.out z31 x9_2 p157 (by first | exact q157 | exact of_decide_eq_true (by first | (with_reducible assumption) | assumption) | (have e_ := (Kd.S_reads' HO_6.out).1; omega)); obtain ⟨ve157_1, rfl, ge157_1⟩ := k31_openM hMe157; have hv157_1 := hcc157 1 _ rfl; rw [add_field _ _ 1 (by omega)] at hv157_1; replace hv157_1 := Option.some.inj (hv157_1.symm.trans hx157_1); rw [hv157_1] at ge157_1; have HL157_1 := Aside0.mk (show Kd.R Kd.string 9 _ _ _ _ ((rd_T31 t149 x9_2).f1) from ge157_1); clear hv157_1 ge157_1; clear hcc157 hce157; have HR157_1 := Aside0.mk hi157_1; have HC157_1 := Aside0.mk hl157_1; clear hi157_1 hl157_1; replace p157 := eq_true p157; replace q157 := eq_true q157; have ea_ := Option.some.inj (hx155_1.symm.trans hx157_1); injection ea_ with ea_ en_ ec_; subst ea_; subst ec_; clear en_)))
                            go_meet
                            case rel => exact ⟨_, ((((rd_T31 t149 x9_2).f0) != (wrap64 (x9_2 + 1)))), (by first | rfl | (simp; done) | (simp only [i64_w, i32_w]; done) | (simp [*]; done)), H', ⟨by have := HJ9.out; have := HK2.out; first | omega | exact Nat.le_refl _⟩, ⟨by (with_reducible repeat (first | apply Kd.S_alloc | apply Kd.S_drewN | apply Kd.S_drew)); exact HO_3.out⟩, ⟨by (with_reducible repeat (first | apply Kd.S_alloc | apply Kd.S_drewN | apply Kd.S_drew)); exact HO_6.out⟩, ⟨by repeat (first | (with_reducible first | exact HB.out | apply below_alloc | apply pw_below_drewN | apply below_drew1) | exact HB.out)⟩⟩
                          · replace c24 := Bool.eq_false_iff.mpr c24
                            subst c24
                            have H1 : (cubitlaw7_RowsBack.j2 k2 t143 t149 x9_2 true) = some true := by (rw [if_neg (show ¬ (false = true) by decide)] at H); first | done | exact H
                            clear H
                            have H := H1
                            clear H1
                            have H' := Aside0.mk H
                            clear H
                            have p154 : 0 ≤ (x9_2 : Int) := of_decide_eq_true (by first | (with_reducible assumption) | assumption)
                            have q154 : x9_2 < (t143.length : Int) := of_decide_eq_true (by first | (with_reducible assumption) | assumption)
                            obtain ⟨ad154, A154_1, c154_1, e154, hx154_0, hx154_1, hl154_1, hi154_1⟩ := at_T31 (Kd.S_reads' HO_3.out).2.2 x9_2 p154 q154
                            cases e154
                            obtain ⟨ce154, hce154, hMe154, hcc154⟩ := Kd.S_get HO_3.out z31 x9_2 p154 (by first | exact q154 | exact of_decide_eq_true (by first | (with_reducible assumption) | assumption) | (have e_ := (Kd.S_reads' HO_3.out).1; omega))
                            obtain ⟨ve154_1, rfl, ge154_1⟩ := k31_openM hMe154
                            have hv154_1 := hcc154 1 _ rfl
                            rw [add_field _ _ 1 (by omega)] at hv154_1
                            replace hv154_1 := Option.some.inj (hv154_1.symm.trans hx154_1)
                            rw [hv154_1] at ge154_1
                            have HL154_1 := Aside0.mk (show Kd.R Kd.string 9 _ _ _ _ ((rd_T31 t143 x9_2).f1) from ge154_1)
                            clear hv154_1 ge154_1
                            clear hcc154 hce154
                            have HR154_1 := Aside0.mk hi154_1
                            have HC154_1 := Aside0.mk hl154_1
                            clear hi154_1 hl154_1
                            replace p154 := eq_true p154
                            replace q154 := eq_true q154
                            obtain ⟨Ao26, co26, eo26⟩ := Kd.S_slice HO_6.out
                            subst eo26
                            have p155 : 0 ≤ (x9_2 : Int) := of_decide_eq_true (by first | (with_reducible assumption) | assumption)
                            have q155 : x9_2 < (t149.length : Int) := of_decide_eq_true (by first | (with_reducible assumption) | assumption)
                            obtain ⟨ad155, A155_1, c155_1, e155, hx155_0, hx155_1, hl155_1, hi155_1⟩ := at_T31 (Kd.S_reads' HO_6.out).2.2 x9_2 p155 q155
                            cases e155
                            obtain ⟨ce155, hce155, hMe155, hcc155⟩ := Kd.S_get HO_6.out z31 x9_2 p155 (by first | exact q155 | exact of_decide_eq_true (by first | (with_reducible assumption) | assumption) | (have e_ := (Kd.S_reads' HO_6.out).1; omega))
                            obtain ⟨ve155_1, rfl, ge155_1⟩ := k31_openM hMe155
                            have hv155_1 := hcc155 1 _ rfl
                            rw [add_field _ _ 1 (by omega)] at hv155_1
                            replace hv155_1 := Option.some.inj (hv155_1.symm.trans hx155_1)
                            rw [hv155_1] at ge155_1
                            have HL155_1 := Aside0.mk (show Kd.R Kd.string 9 _ _ _ _ ((rd_T31 t149 x9_2).f1) from ge155_1)
                            clear hv155_1 ge155_1
                            clear hcc155 hce155
                            have HR155_1 := Aside0.mk hi155_1
                            have HC155_1 := Aside0.mk hl155_1
                            clear hi155_1 hl155_1
                            replace p155 := eq_true p155
                            replace q155 := eq_true q155
                            go_wp2_with (first | (go_at_call 22; (with_reducible refine (cubitlaw7_texts.calls k2 _ _ ((rd_T31 t143 x9_2).f1) _ _ ((rd_T31 t149 x9_2).f1) false _ ?side1 ?side2 ?side3 ?side4 A23.out ?side5).mono ?_); (case side1 => repeat (first | exact (by repeat (first | (with_reducible exact HR154_1.out) | (with_reducible refine Kd.C_alloc ?_ _) | (with_reducible refine Kd.C_drewN ?_ _) | (with_reducible refine Kd.C_drew ?_) | exact HR154_1.out)) | (with_reducible refine Kd.C_alloc ?_ _) | (with_reducible refine Kd.C_drewN ?_ _) | (with_reducible refine Kd.C_drew ?_))); (case side2 => exact HC154_1.out); (case side3 => repeat (first | exact (by repeat (first | (with_reducible exact HR155_1.out) | (with_reducible refine Kd.C_alloc ?_ _) | (with_reducible refine Kd.C_drewN ?_ _) | (with_reducible refine Kd.C_drew ?_) | exact HR155_1.out)) | (with_reducible refine Kd.C_alloc ?_ _) | (with_reducible refine Kd.C_drewN ?_ _) | (with_reducible refine Kd.C_drew ?_))); (case side4 => exact HC155_1.out); (case side5 => exact Glob.below HG.out (by repeat (first | (with_reducible first | exact HB.out | apply below_alloc | apply pw_below_drewN | apply below_drew1) | exact HB.out))); rintro e w' ⟨rfl, ⟨nd, rfl⟩⟩; (try first | exact ⟨rfl, _, World.drewN_drewN _ _ _⟩ | exact ⟨rfl, _, Eq.trans (World.drewN_drewN _ _ _) (congrArg (World.drewN _) (Nat.add_assoc _ _ _))⟩)))
                            repeat (go_quiet (first | (go_at_call 22; (with_reducible refine (cubitlaw7_texts.calls k2 _ _ ((rd_T31 t143 x9_2).f1) _ _ ((rd_T31 t149 x9_2).f1) false _ ?side1 ?side2 ?side3 ?side4 A23.out ?side5).mono ?_); (case side1 => repeat (first | exact (by repeat (first | (with_reducible exact HR154_1.out) | (with_reducible refine Kd.C_alloc ?_ _) | (with_reducible refine Kd.C_drewN ?_ _) | (with_reducible refine Kd.C_drew ?_) | exact HR154_1.out)) | (with_reducible refine Kd.C_alloc ?_ _) | (with_reducible refine Kd.C_drewN ?_ _) | (with_reducible refine Kd.C_drew ?_))); (case side2 => exact HC154_1.out); (case side3 => repeat (first | exact (by repeat (first | (with_reducible exact HR155_1.out) | (with_reducible refine Kd.C_alloc ?_ _) | (with_reducible refine Kd.C_drewN ?_ _) | (with_reducible refine Kd.C_drew ?_) | exact HR155_1.out)) | (with_reducible refine Kd.C_alloc ?_ _) | (with_reducible refine Kd.C_drewN ?_ _) | (with_reducible refine Kd.C_drew ?_))); (case side4 => exact HC155_1.out); (case side5 => exact Glob.below HG.out (by repeat (first | (with_reducible first | exact HB.out | apply below_alloc | apply pw_below_drewN | apply below_drew1) | exact HB.out))); rintro e w' ⟨rfl, ⟨nd, rfl⟩⟩; (try first | exact ⟨rfl, _, World.drewN_drewN _ _ _⟩ | exact ⟨rfl, _, Eq.trans (World.drewN_drewN _ _ _) (congrArg (World.drewN _) (Nat.add_assoc _ _ _))⟩))); try go_wp2_with (first | (go_at_call 22; (with_reducible refine (cubitlaw7_texts.calls k2 _ _ ((rd_T31 t143 x9_2).f1) _ _ ((rd_T31 t149 x9_2).f1) false _ ?side1 ?side2 ?side3 ?side4 A23.out ?side5).mono ?_); (case side1 => repeat (first | exact (by repeat (first | (with_reducible exact HR154_1.out) | (with_reducible refine Kd.C_alloc ?_ _) | (with_reducible refine Kd.C_drewN ?_ _) | (with_reducible refine Kd.C_drew ?_) | exact HR154_1.out)) | (with_reducible refine Kd.C_alloc ?_ _) | (with_reducible refine Kd.C_drewN ?_ _) | (with_reducible refine Kd.C_drew ?_))); (case side2 => exact HC154_1.out); (case side3 => repeat (first | exact (by repeat (first | (with_reducible exact HR155_1.out) | (with_reducible refine Kd.C_alloc ?_ _) | (with_reducible refine Kd.C_drewN ?_ _) | (with_reducible refine Kd.C_drew ?_) | exact HR155_1.out)) | (with_reducible refine Kd.C_alloc ?_ _) | (with_reducible refine Kd.C_drewN ?_ _) | (with_reducible refine Kd.C_drew ?_))); (case side4 => exact HC155_1.out); (case side5 => exact Glob.below HG.out (by repeat (first | (with_reducible first | exact HB.out | apply below_alloc | apply pw_below_drewN | apply below_drew1) | exact HB.out))); rintro e w' ⟨rfl, ⟨nd, rfl⟩⟩; (try first | exact ⟨rfl, _, World.drewN_drewN _ _ _⟩ | exact ⟨rfl, _, Eq.trans (World.drewN_drewN _ _ _) (congrArg (World.drewN _) (Nat.add_assoc _ _ _))⟩))))
                            go_meet
                            case rel => exact ⟨_, (true), (by first | rfl | (simp; done) | (simp only [i64_w, i32_w]; done) | (simp [*]; done)), H', ⟨by have := HJ9.out; have := HK2.out; first | omega | exact Nat.le_refl _⟩, ⟨by (with_reducible repeat (first | apply Kd.S_alloc | apply Kd.S_drewN | apply Kd.S_drew)); exact HO_3.out⟩, ⟨by (with_reducible repeat (first | apply Kd.S_alloc | apply Kd.S_drewN | apply Kd.S_drew)); exact HO_6.out⟩, ⟨by repeat (first | (with_reducible first | exact HB.out | apply below_alloc | apply pw_below_drewN | apply below_drew1) | exact HB.out)⟩⟩
                        · rw [if_neg c22] at H
                          exact absurd H (by simp)
                      · rw [if_neg c21] at H
                        exact absurd H (by simp)
                    case rest =>
                      clear HC20
                      try clear c1
                      try clear p1
                      try clear q1
                      try clear hx1
                      try clear c2
                      try clear p2
                      try clear c3
                      try clear c4
                      try clear c4b0
                      try clear c4b1
                      try clear p6
                      try clear c7
                      try clear c7b0
                      try clear c7b1
                      try clear c15
                      try clear p15
                      try clear q15
                      try clear hx15
                      try clear c16
                      try clear c16b0
                      try clear c16b1
                      try clear c18
                      try clear c19
                      try clear c19b0
                      try clear c21
                      try clear c21b0
                      try clear c22
                      try clear c22b0
                      try clear c24
                      try clear hx154_0
                      try clear hx154_1
                      try clear hx155_0
                      try clear hx155_1
                      try clear hx157_0
                      try clear hx157_1
                      try clear p154
                      try clear p155
                      try clear p157
                      try clear p2
                      try clear q154
                      try clear q155
                      try clear q157
                      obtain ⟨kq, x69_19, rfl, HA, HJ19, HO_3, HO_6, HB⟩ := hcut
                      cases kq with
                      | zero => exact absurd HA.out (by simp [cubitlaw7_RowsBack.j2])
                      | succ kj19 =>
                        have H := HA.out
                        clear HA
                        simp only [cubitlaw7_RowsBack.j2] at H
                        by_cases c27 : x69_19 = true
                        · subst c27
                          have H1 : (some false) = some true := by (rw [if_pos rfl] at H); first | done | exact H
                          clear H
                          have H := H1
                          clear H1
                          exact absurd H (by simp)
                        · replace c27 := Bool.eq_false_iff.mpr c27
                          subst c27
                          have H1 : (cubitlaw7_RowsBack.l0 kj19 t143 t149 (wrap64 (x9_2 + 1))) = some true := by (rw [if_neg (show ¬ (false = true) by decide)] at H); first | done | exact H
                          clear H
                          have H := H1
                          clear H1
                          have H' := Aside0.mk H
                          clear H
                          go_wp2
                          repeat (go_quiet (fail); try go_wp2)
                          go_roundg kj19
                          case measure => have := HJ9.out; have := HK2.out; have := HJ19.out; omega
                          case rel => exact ⟨(wrap64 (x9_2 + 1)), (by first | rfl | (simp; done) | (simp only [i64_w, i32_w]; done) | (simp [*]; done)), H', ⟨by have := HJ9.out; have := HK2.out; have := HJ19.out; omega⟩, ⟨by (with_reducible repeat (first | apply Kd.S_alloc | apply Kd.S_drewN | apply Kd.S_drew)); exact HO_3.out⟩, ⟨by (with_reducible repeat (first | apply Kd.S_alloc | apply Kd.S_drewN | apply Kd.S_drew)); exact HO_6.out⟩, ⟨by repeat (first | (with_reducible first | exact HB.out | apply below_alloc | apply pw_below_drewN | apply below_drew1) | exact HB.out)⟩⟩
                  · rw [if_neg c19] at H
                    have c19b0 : decide (x9_2 < (t143.length : Int)) = false := decide_eq_false c19
                    clear c19
                    replace H := Option.bind_eq_some_iff.mp H
                    obtain ⟨t158, A280, H⟩ := H
                    replace H : ((rows_Show.f t143).bind fun t159 => (if t158.toList = t159.toList then (some true) else (some false))) = some true := H
                    have A28 := Aside0.mk A280
                    clear A280
                    replace H := Option.bind_eq_some_iff.mp H
                    obtain ⟨t159, A290, H⟩ := H
                    replace H : (if t158.toList = t159.toList then (some true) else (some false)) = some true := H
                    have A29 := Aside0.mk A290
                    clear A290
                    by_cases c30 : t158.toList = t159.toList
                    · rw [if_pos c30] at H
                      have c30b0 : (t158.toList == t159.toList) = true := beq_iff_eq.mpr c30
                      have c30b1 : (t158.toList != t159.toList) = false := bne_eq_false_iff_eq.mpr c30
                      clear c30
                      clear H
                      obtain ⟨Ao31, co31, eo31⟩ := Kd.S_slice HO_6.out
                      subst eo31
                      go_wp2_with (first | (go_at_call 21; (with_reducible refine (rows_Show.calls _ _ t149 t158 _ ?side1 ?side2 A28.out ?side3).mono ?_); (case side1 => repeat (first | exact (Kd.S_reads' HO_6.out).2.2 | (with_reducible refine Kd.C_alloc ?_ _) | (with_reducible refine Kd.C_drewN ?_ _) | (with_reducible refine Kd.C_drew ?_))); (case side2 => exact (Kd.S_reads' HO_6.out).2.1); (case side3 => exact Glob.below HG.out (by repeat (first | (with_reducible first | exact HB.out | apply below_alloc | apply pw_below_drewN | apply below_drew1) | exact HB.out))); rintro e w32 ⟨rfl, hb⟩; have n0_ := Aside0.mk (Kd.S_below (by (with_reducible repeat (first | apply Kd.S_alloc | apply Kd.S_drewN | apply Kd.S_drew)); exact HO_3.out) hb); have n1_ := Aside0.mk (Kd.S_below (by (with_reducible repeat (first | apply Kd.S_alloc | apply Kd.S_drewN | apply Kd.S_drew)); exact HO_6.out) hb); have n2_ := Aside0.mk (below_step (by repeat (first | (with_reducible first | exact HB.out | apply below_alloc | apply pw_below_drewN | apply below_drew1) | exact HB.out)) hb); clear HO_3; clear HO_6; clear HB; have HO_3 := n0_; have HO_6 := n1_; have HB := n2_; clear n0_ n1_ n2_; (try clear hb); (try clear hb2); (try clear hk); (try clear hi)) | (go_at_call 21; (with_reducible refine (rows_Show.calls _ _ t143 t159 _ ?side1 ?side2 A29.out ?side3).mono ?_); (case side1 => repeat (first | exact (Kd.S_reads' HO_3.out).2.2 | (with_reducible refine Kd.C_alloc ?_ _) | (with_reducible refine Kd.C_drewN ?_ _) | (with_reducible refine Kd.C_drew ?_))); (case side2 => exact (Kd.S_reads' HO_3.out).2.1); (case side3 => exact Glob.below HG.out (by repeat (first | (with_reducible first | exact HB.out | apply below_alloc | apply pw_below_drewN | apply below_drew1) | exact HB.out))); rintro e w33 ⟨rfl, hb⟩; have n0_ := Aside0.mk (Kd.S_below (by (with_reducible repeat (first | apply Kd.S_alloc | apply Kd.S_drewN | apply Kd.S_drew)); exact HO_3.out) hb); have n1_ := Aside0.mk (Kd.S_below (by (with_reducible repeat (first | apply Kd.S_alloc | apply Kd.S_drewN | apply Kd.S_drew)); exact HO_6.out) hb); have n2_ := Aside0.mk (below_step (by repeat (first | (with_reducible first | exact HB.out | apply below_alloc | apply pw_below_drewN | apply below_drew1) | exact HB.out)) hb); clear HO_3; clear HO_6; clear HB; have HO_3 := n0_; have HO_6 := n1_; have HB := n2_; clear n0_ n1_ n2_; (try clear hb); (try clear hb2); (try clear hk); (try clear hi)))
                      repeat (go_quiet (first | (go_at_call 21; (with_reducible refine (rows_Show.calls _ _ t149 t158 _ ?side1 ?side2 A28.out ?side3).mono ?_); (case side1 => repeat (first | exact (Kd.S_reads' HO_6.out).2.2 | (with_reducible refine Kd.C_alloc ?_ _) | (with_reducible refine Kd.C_drewN ?_ _) | (with_reducible refine Kd.C_drew ?_))); (case side2 => exact (Kd.S_reads' HO_6.out).2.1); (case side3 => exact Glob.below HG.out (by repeat (first | (with_reducible first | exact HB.out | apply below_alloc | apply pw_below_drewN | apply below_drew1) | exact HB.out))); rintro e w32 ⟨rfl, hb⟩; have n0_ := Aside0.mk (Kd.S_below (by (with_reducible repeat (first | apply Kd.S_alloc | apply Kd.S_drewN | apply Kd.S_drew)); exact HO_3.out) hb); have n1_ := Aside0.mk (Kd.S_below (by (with_reducible repeat (first | apply Kd.S_alloc | apply Kd.S_drewN | apply Kd.S_drew)); exact HO_6.out) hb); have n2_ := Aside0.mk (below_step (by repeat (first | (with_reducible first | exact HB.out | apply below_alloc | apply pw_below_drewN | apply below_drew1) | exact HB.out)) hb); clear HO_3; clear HO_6; clear HB; have HO_3 := n0_; have HO_6 := n1_; have HB := n2_; clear n0_ n1_ n2_; (try clear hb); (try clear hb2); (try clear hk); (try clear hi)) | (go_at_call 21; (with_reducible refine (rows_Show.calls _ _ t143 t159 _ ?side1 ?side2 A29.out ?side3).mono ?_); (case side1 => repeat (first | exact (Kd.S_reads' HO_3.out).2.2 | (with_reducible refine Kd.C_alloc ?_ _) | (with_reducible refine Kd.C_drewN ?_ _) | (with_reducible refine Kd.C_drew ?_))); (case side2 => exact (Kd.S_reads' HO_3.out).2.1); (case side3 => exact Glob.below HG.out (by repeat (first | (with_reducible first | exact HB.out | apply below_alloc | apply pw_below_drewN | apply below_drew1) | exact HB.out))); rintro e w33 ⟨rfl, hb⟩; have n0_ := Aside0.mk (Kd.S_below (by (with_reducible repeat (first | apply Kd.S_alloc | apply Kd.S_drewN | apply Kd.S_drew)); exact HO_3.out) hb); have n1_ := Aside0.mk (Kd.S_below (by (with_reducible repeat (first | apply Kd.S_alloc | apply Kd.S_drewN | apply Kd.S_drew)); exact HO_6.out) hb); have n2_ := Aside0.mk (below_step (by repeat (first | (with_reducible first | exact HB.out | apply below_alloc | apply pw_below_drewN | apply below_drew1) | exact HB.out)) hb); clear HO_3; clear HO_6; clear HB; have HO_3 := n0_; have HO_6 := n1_; have HB := n2_; clear n0_ n1_ n2_; (try clear hb); (try clear hb2); (try clear hk); (try clear hi))); try go_wp2_with (first | (go_at_call 21; (with_reducible refine (rows_Show.calls _ _ t149 t158 _ ?side1 ?side2 A28.out ?side3).mono ?_); (case side1 => repeat (first | exact (Kd.S_reads' HO_6.out).2.2 | (with_reducible refine Kd.C_alloc ?_ _) | (with_reducible refine Kd.C_drewN ?_ _) | (with_reducible refine Kd.C_drew ?_))); (case side2 => exact (Kd.S_reads' HO_6.out).2.1); (case side3 => exact Glob.below HG.out (by repeat (first | (with_reducible first | exact HB.out | apply below_alloc | apply pw_below_drewN | apply below_drew1) | exact HB.out))); rintro e w32 ⟨rfl, hb⟩; have n0_ := Aside0.mk (Kd.S_below (by (with_reducible repeat (first | apply Kd.S_alloc | apply Kd.S_drewN | apply Kd.S_drew)); exact HO_3.out) hb); have n1_ := Aside0.mk (Kd.S_below (by (with_reducible repeat (first | apply Kd.S_alloc | apply Kd.S_drewN | apply Kd.S_drew)); exact HO_6.out) hb); have n2_ := Aside0.mk (below_step (by repeat (first | (with_reducible first | exact HB.out | apply below_alloc | apply pw_below_drewN | apply below_drew1) | exact HB.out)) hb); clear HO_3; clear HO_6; clear HB; have HO_3 := n0_; have HO_6 := n1_; have HB := n2_; clear n0_ n1_ n2_; (try clear hb); (try clear hb2); (try clear hk); (try clear hi)) | (go_at_call 21; (with_reducible refine (rows_Show.calls _ _ t143 t159 _ ?side1 ?side2 A29.out ?side3).mono ?_); (case side1 => repeat (first | exact (Kd.S_reads' HO_3.out).2.2 | (with_reducible refine Kd.C_alloc ?_ _) | (with_reducible refine Kd.C_drewN ?_ _) | (with_reducible refine Kd.C_drew ?_))); (case side2 => exact (Kd.S_reads' HO_3.out).2.1); (case side3 => exact Glob.below HG.out (by repeat (first | (with_reducible first | exact HB.out | apply below_alloc | apply pw_below_drewN | apply below_drew1) | exact HB.out))); rintro e w33 ⟨rfl, hb⟩; have n0_ := Aside0.mk (Kd.S_below (by (with_reducible repeat (first | apply Kd.S_alloc | apply Kd.S_drewN | apply Kd.S_drew)); exact HO_3.out) hb); have n1_ := Aside0.mk (Kd.S_below (by (with_reducible repeat (first | apply Kd.S_alloc | apply Kd.S_drewN | apply Kd.S_drew)); exact HO_6.out) hb); have n2_ := Aside0.mk (below_step (by repeat (first | (with_reducible first | exact HB.out | apply below_alloc | apply pw_below_drewN | apply below_drew1) | exact HB.out)) hb); clear HO_3; clear HO_6; clear HB; have HO_3 := n0_; have HO_6 := n1_; have HB := n2_; clear n0_ n1_ n2_; (try clear hb); (try clear hb2); (try clear hk); (try clear hi))))
                      go_ret
                      exact ⟨by first | rfl | (simp [errW_none, errW_some] <;> rfl) | (simp [*, errW_none, errW_some] <;> rfl), by repeat (first | (with_reducible first | exact HB.out | apply below_alloc | apply pw_below_drewN | apply below_drew1) | exact HB.out)⟩
                    · rw [if_neg c30] at H
                      have c30b0 : (t158.toList == t159.toList) = false := beq_eq_false_iff_ne.mpr c30
                      have c30b1 : (t158.toList != t159.toList) = true := bne_iff_ne.mpr c30
                      exact absurd H (by simp)
      · rw [if_neg c7] at H
        have c7b0 : (t145 == 0) = false := beq_eq_false_iff_ne.mpr c7
        have c7b1 : (t145 != 0) = true := bne_iff_ne.mpr c7
        by_cases c34 : (t143.length : Int) = 0
        · rw [if_pos c34] at H
          have c34b0 : ((t143.length : Int) == 0) = true := beq_iff_eq.mpr c34
          have c34b1 : ((t143.length : Int) != 0) = false := bne_eq_false_iff_eq.mpr c34
          clear c34
          clear H
          go_enter Tryd.func3, Tryd.ntmps3
          go_wp2_with (first | (go_at_call 19; (with_reducible refine (cubitlaw7_awake.calls k  true _ A2.out rfl ?side1).mono ?_); (case side1 => exact Glob.below HG.out (by repeat (first | (with_reducible first | exact HB.out | apply below_alloc | apply pw_below_drewN | apply below_drew1) | exact HB.out))); rintro e w35 ⟨rfl, hb⟩; have n0_ := Aside0.mk (below_step (by repeat (first | (with_reducible first | exact HB.out | apply below_alloc | apply pw_below_drewN | apply below_drew1) | exact HB.out)) hb); clear HB; have HB := n0_; clear n0_; (try clear hb); (try clear hb2); (try clear hk); (try clear hi)) | (go_at_call 20; (with_reducible refine (rows_Parse.calls k a0 t143 t144 t145 _ A6.out ?side1).mono ?_); (case side1 => exact Glob.below HG.out (by repeat (first | (with_reducible first | exact HB.out | apply below_alloc | apply pw_below_drewN | apply below_drew1) | exact HB.out))); rintro e w36 ⟨v146, rfl, ho0, hb⟩; have n0_ := Aside0.mk (Kd.S_lower ho0 (below_size (by repeat (first | (with_reducible first | exact HB.out | apply below_alloc | apply pw_below_drewN | apply below_drew1) | exact HB.out)))); have n1_ := Aside0.mk (below_step (by repeat (first | (with_reducible first | exact HB.out | apply below_alloc | apply pw_below_drewN | apply below_drew1) | exact HB.out)) hb); clear HB; have HO147 := n0_; have HB := n1_; clear n0_ n1_; (try clear hb); (try clear hb2); (try clear hk); (try clear hi); (try clear ho0); obtain ⟨Ao37, co37, eo37⟩ := Kd.S_slice HO147.out; subst eo37))
          repeat (go_quiet (first | (go_at_call 19; (with_reducible refine (cubitlaw7_awake.calls k  true _ A2.out rfl ?side1).mono ?_); (case side1 => exact Glob.below HG.out (by repeat (first | (with_reducible first | exact HB.out | apply below_alloc | apply pw_below_drewN | apply below_drew1) | exact HB.out))); rintro e w35 ⟨rfl, hb⟩; have n0_ := Aside0.mk (below_step (by repeat (first | (with_reducible first | exact HB.out | apply below_alloc | apply pw_below_drewN | apply below_drew1) | exact HB.out)) hb); clear HB; have HB := n0_; clear n0_; (try clear hb); (try clear hb2); (try clear hk); (try clear hi)) | (go_at_call 20; (with_reducible refine (rows_Parse.calls k a0 t143 t144 t145 _ A6.out ?side1).mono ?_); (case side1 => exact Glob.below HG.out (by repeat (first | (with_reducible first | exact HB.out | apply below_alloc | apply pw_below_drewN | apply below_drew1) | exact HB.out))); rintro e w36 ⟨v146, rfl, ho0, hb⟩; have n0_ := Aside0.mk (Kd.S_lower ho0 (below_size (by repeat (first | (with_reducible first | exact HB.out | apply below_alloc | apply pw_below_drewN | apply below_drew1) | exact HB.out)))); have n1_ := Aside0.mk (below_step (by repeat (first | (with_reducible first | exact HB.out | apply below_alloc | apply pw_below_drewN | apply below_drew1) | exact HB.out)) hb); clear HB; have HO147 := n0_; have HB := n1_; clear n0_ n1_; (try clear hb); (try clear hb2); (try clear hk); (try clear hi); (try clear ho0); obtain ⟨Ao37, co37, eo37⟩ := Kd.S_slice HO147.out; subst eo37)); try go_wp2_with (first | (go_at_call 19; (with_reducible refine (cubitlaw7_awake.calls k  true _ A2.out rfl ?side1).mono ?_); (case side1 => exact Glob.below HG.out (by repeat (first | (with_reducible first | exact HB.out | apply below_alloc | apply pw_below_drewN | apply below_drew1) | exact HB.out))); rintro e w35 ⟨rfl, hb⟩; have n0_ := Aside0.mk (below_step (by repeat (first | (with_reducible first | exact HB.out | apply below_alloc | apply pw_below_drewN | apply below_drew1) | exact HB.out)) hb); clear HB; have HB := n0_; clear n0_; (try clear hb); (try clear hb2); (try clear hk); (try clear hi)) | (go_at_call 20; (with_reducible refine (rows_Parse.calls k a0 t143 t144 t145 _ A6.out ?side1).mono ?_); (case side1 => exact Glob.below HG.out (by repeat (first | (with_reducible first | exact HB.out | apply below_alloc | apply pw_below_drewN | apply below_drew1) | exact HB.out))); rintro e w36 ⟨v146, rfl, ho0, hb⟩; have n0_ := Aside0.mk (Kd.S_lower ho0 (below_size (by repeat (first | (with_reducible first | exact HB.out | apply below_alloc | apply pw_below_drewN | apply below_drew1) | exact HB.out)))); have n1_ := Aside0.mk (below_step (by repeat (first | (with_reducible first | exact HB.out | apply below_alloc | apply pw_below_drewN | apply below_drew1) | exact HB.out)) hb); clear HB; have HO147 := n0_; have HB := n1_; clear n0_ n1_; (try clear hb); (try clear hb2); (try clear hk); (try clear hi); (try clear ho0); obtain ⟨Ao37, co37, eo37⟩ := Kd.S_slice HO147.out; subst eo37)))
          go_ret
          exact ⟨by first | rfl | (simp [errW_none, errW_some] <;> rfl) | (simp [*, errW_none, errW_some] <;> rfl), by repeat (first | (with_reducible first | exact HB.out | apply below_alloc | apply pw_below_drewN | apply below_drew1) | exact HB.out)⟩
        · rw [if_neg c34] at H
          have c34b0 : ((t143.length : Int) == 0) = false := beq_eq_false_iff_ne.mpr c34
          have c34b1 : ((t143.length : Int) != 0) = true := bne_iff_ne.mpr c34
          have c34b2 : ¬ (t143 = []) := fun h_ => c34 (by rw [h_]; rfl)
          exact absurd H (by simp)
  · replace c3 := Bool.eq_false_iff.mpr c3
    subst c3
    have H1 : (some false) = some true := by (rw [if_neg (show ¬ (false = true) by decide)] at H); first | done | exact H
    clear H
    have H := H1
    clear H1
    exact absurd H (by simp)

end Go.Proofs.YthefdpioaapomaaDoor.PA
