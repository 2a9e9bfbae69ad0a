-- Written by this session's own run of a patched print program: see NOTES.md.
import Derived.Test.YthefdpioaapomaaDoorPC0
import Derived.Test.YthefdpioaapomaaDoorPC1
import Derived.Test.YthefdpioaapomaaDoorPC4
import Derived.Test.YthefdpioaapomaaDoorPC5
import Derived.Test.YthefdpioaapomaaDoorPC6
namespace Go.Proofs.YthefdpioaapomaaDoor.PC
open Go.RowKit Go.Proofs.YthefdpioaapomaaDoorW.PrintWords Go.Proofs.YthefdpioaapomaaDoorW.PrintLast Go.Proofs.YthefdpioaapomaaDoor.Ext Go.Proofs.YthefdpioaapomaaDoorW.PrintMore
attribute [local go_sem] max2_int min2_int max_two min_two max_three min_three max_four min_four   -- for this text's walks alone
set_option linter.unusedVariables false
set_option linter.unusedSimpArgs false

attribute [local go_sem high] eqA49
/-! ### cubitlaw9_AtomBack: function 13 -/
mutual
def cubitlaw9_AtomBack.j0 : Nat → List ByteArray → Int → Bool → ByteArray → ByteArray → Int → Option (Bool)
  | 0, _, _, _, _, _, _ => none
  | k + 1, x0, x4, x39, x391000, x391001, x391002 => if x39 = true then (some false) else (if 0 < (x0.length : Int) then (if x4 = 2 then (if (rdOf ByteArray.empty x0 0).size + 1 ≤ 9223372036854775807 then (if 1 < (x0.length : Int) then (if ((rdOf ByteArray.empty x0 0) ++ (⟨#[45]⟩ : ByteArray)).size + (rdOf ByteArray.empty x0 1).size ≤ 9223372036854775807 then (cubitlaw9_AtomBack.j1 k (((rdOf ByteArray.empty x0 0) ++ (⟨#[45]⟩ : ByteArray)) ++ (rdOf ByteArray.empty x0 1)) x391000 x391001 x391002) else (none)) else (none)) else (none)) else (cubitlaw9_AtomBack.j1 k (rdOf ByteArray.empty x0 0) x391000 x391001 x391002)) else (none))
def cubitlaw9_AtomBack.j1 : Nat → ByteArray → ByteArray → ByteArray → Int → Option (Bool)
  | 0, _, _, _, _ => none
  | k + 1, x6, x391000, x391001, x391002 => (atom_Show.f k x391000 x391001 x391002).bind fun t393 => (if t393.toList = x6.toList then ((atom_Less.f k x391000 x391001 x391002 x391000 x391001 x391002).bind fun t394 => (if t394 = true then (some false) else (some true))) else (some false))
end
def cubitlaw9_AtomBack.f (k : Nat) (l0 : List ByteArray) : Option (Bool) := (cubitlaw9_awake.f k).bind fun t378 => (if t378 = true then (if (l0.length : Int) > 12 then (some true) else ((cubitlaw9_some.f).bind fun bt379 => ((atom_Parse.f k bt379.1 bt379.2 l0).bind fun bt385 => (if bt385.2.2.2.2 = true then (if bt385.2.2.2.1 < 1 then (cubitlaw9_AtomBack.j0 k l0 bt385.2.2.2.1 true bt385.1 bt385.2.1 bt385.2.2.1) else (if bt385.2.2.2.1 > 2 then (cubitlaw9_AtomBack.j0 k l0 bt385.2.2.2.1 true bt385.1 bt385.2.1 bt385.2.2.1) else (cubitlaw9_AtomBack.j0 k l0 bt385.2.2.2.1 (decide (bt385.2.2.2.1 > (l0.length : Int))) bt385.1 bt385.2.1 bt385.2.2.1))) else (if bt385.2.2.2.1 = 0 then (if (bt385.1.toList == ([] : List UInt8) && (bt385.2.1.toList == ([] : List UInt8) && (bt385.2.2.1 == 0))) = true then (some true) else (some false)) else (some false)))))) else (some false))
theorem cubitlaw9_AtomBack.mono_l : ∀ k, (∀ y0 y1 y2 y3 y4 y5, LeO (cubitlaw9_AtomBack.j0 k y0 y1 y2 y3 y4 y5) (cubitlaw9_AtomBack.j0 (k + 1) y0 y1 y2 y3 y4 y5)) ∧ (∀ y0 y1 y2 y3, LeO (cubitlaw9_AtomBack.j1 k y0 y1 y2 y3) (cubitlaw9_AtomBack.j1 (k + 1) y0 y1 y2 y3))
  | 0 => ⟨fun _ _ _ _ _ _ r h => by simp [cubitlaw9_AtomBack.j0] at h, fun _ _ _ _ r h => by simp [cubitlaw9_AtomBack.j1] at h⟩
  | k + 1 => by
    obtain ⟨ih0, ih1⟩ := cubitlaw9_AtomBack.mono_l k
    refine ⟨?_, ?_⟩
    · intro y0 y1 y2 y3 y4 y5
      unfold cubitlaw9_AtomBack.j0
      repeat' first
      | (with_reducible exact ih0 _ _ _ _ _ _)
      | (with_reducible exact ih1 _ _ _ _)
      | (with_reducible exact atom_Less.mono _ _ _ _ _ _ _)
      | (with_reducible exact atom_Parse.mono _ _ _ _)
      | (with_reducible exact atom_Show.mono _ _ _ _)
      | (with_reducible exact cubitlaw9_awake.mono _)
      | (with_reducible exact LeO.refl _)
      | (with_reducible exact LeO.none _)
      | (with_reducible refine LeO.ite ?_ ?_)
      | (with_reducible refine LeO.bind ?_ (fun _ => ?_))
      | exact ih0 _ _ _ _ _ _
      | exact ih1 _ _ _ _
      | exact atom_Less.mono _ _ _ _ _ _ _
      | exact atom_Parse.mono _ _ _ _
      | exact atom_Show.mono _ _ _ _
      | exact cubitlaw9_awake.mono _
      | exact LeO.none _
      | refine LeO.ite ?_ ?_
      | refine LeO.bind ?_ (fun _ => ?_)
    · intro y0 y1 y2 y3
      unfold cubitlaw9_AtomBack.j1
      repeat' first
      | (with_reducible exact ih0 _ _ _ _ _ _)
      | (with_reducible exact ih1 _ _ _ _)
      | (with_reducible exact atom_Less.mono _ _ _ _ _ _ _)
      | (with_reducible exact atom_Parse.mono _ _ _ _)
      | (with_reducible exact atom_Show.mono _ _ _ _)
      | (with_reducible exact cubitlaw9_awake.mono _)
      | (with_reducible exact LeO.refl _)
      | (with_reducible exact LeO.none _)
      | (with_reducible refine LeO.ite ?_ ?_)
      | (with_reducible refine LeO.bind ?_ (fun _ => ?_))
      | exact ih0 _ _ _ _ _ _
      | exact ih1 _ _ _ _
      | exact atom_Less.mono _ _ _ _ _ _ _
      | exact atom_Parse.mono _ _ _ _
      | exact atom_Show.mono _ _ _ _
      | exact cubitlaw9_awake.mono _
      | exact LeO.none _
      | refine LeO.ite ?_ ?_
      | refine LeO.bind ?_ (fun _ => ?_)
theorem cubitlaw9_AtomBack.mono : ∀ a0 k, LeO (cubitlaw9_AtomBack.f k a0) (cubitlaw9_AtomBack.f (k + 1) a0) := by
  intro a0 k
  obtain ⟨ih0, ih1⟩ := cubitlaw9_AtomBack.mono_l k
  unfold cubitlaw9_AtomBack.f
  repeat' first
      | (with_reducible exact ih0 _ _ _ _ _ _)
      | (with_reducible exact ih1 _ _ _ _)
      | (with_reducible exact atom_Less.mono _ _ _ _ _ _ _)
      | (with_reducible exact atom_Parse.mono _ _ _ _)
      | (with_reducible exact atom_Show.mono _ _ _ _)
      | (with_reducible exact cubitlaw9_awake.mono _)
      | (with_reducible exact LeO.refl _)
      | (with_reducible exact LeO.none _)
      | (with_reducible refine LeO.ite ?_ ?_)
      | (with_reducible refine LeO.bind ?_ (fun _ => ?_))
      | exact ih0 _ _ _ _ _ _
      | exact ih1 _ _ _ _
      | exact atom_Less.mono _ _ _ _ _ _ _
      | exact atom_Parse.mono _ _ _ _
      | exact atom_Show.mono _ _ _ _
      | exact cubitlaw9_awake.mono _
      | exact LeO.none _
      | refine LeO.ite ?_ ?_
      | refine LeO.bind ?_ (fun _ => ?_)
set_option maxHeartbeats 8000000 in
set_option maxRecDepth 100000 in
theorem cubitlaw9_AtomBack.calls (k : Nat) (A0 : Option Addr) (c0 : Nat) (l0 : List ByteArray) (r : Bool) (w : World) (hr0 : Kd.C Kd.string w A0 l0.length l0) (hc0 : l0.length ≤ c0) (h : cubitlaw9_AtomBack.f k l0 = some r) (hT : r = true) (hG : Glob w) :
    Calls Tryd.prog 13 #[.slice A0 l0.length c0] w fun e w' => e = .returned (.bool r) ∧ Below w.heap.size w w' := by
  have hu49 := Tryd.underlying49
  have HR0 := Aside0.mk hr0
  have HC0 := Aside0.mk hc0
  clear hr0 hc0
  have HB := Aside0.mk (Below.refl w.heap.size w)
  subst hT
  have H : ((cubitlaw9_awake.f k).bind fun t378 => (if t378 = true then (if (l0.length : Int) > 12 then (some true) else ((cubitlaw9_some.f).bind fun bt379 => ((atom_Parse.f k bt379.1 bt379.2 l0).bind fun bt385 => (if bt385.2.2.2.2 = true then (if bt385.2.2.2.1 < 1 then (cubitlaw9_AtomBack.j0 k l0 bt385.2.2.2.1 true bt385.1 bt385.2.1 bt385.2.2.1) else (if bt385.2.2.2.1 > 2 then (cubitlaw9_AtomBack.j0 k l0 bt385.2.2.2.1 true bt385.1 bt385.2.1 bt385.2.2.1) else (cubitlaw9_AtomBack.j0 k l0 bt385.2.2.2.1 (decide (bt385.2.2.2.1 > (l0.length : Int))) bt385.1 bt385.2.1 bt385.2.2.1))) else (if bt385.2.2.2.1 = 0 then (if (bt385.1.toList == ([] : List UInt8) && (bt385.2.1.toList == ([] : List UInt8) && (bt385.2.2.1 == 0))) = true then (some true) else (some false)) else (some false)))))) else (some false))) = some true := h
  clear h
  have HG := Aside0.mk hG
  clear hG
  replace H := Option.bind_eq_some_iff.mp H
  obtain ⟨t378, A20, H⟩ := H
  replace H : (if t378 = true then (if (l0.length : Int) > 12 then (some true) else ((cubitlaw9_some.f).bind fun bt379 => ((atom_Parse.f k bt379.1 bt379.2 l0).bind fun bt385 => (if bt385.2.2.2.2 = true then (if bt385.2.2.2.1 < 1 then (cubitlaw9_AtomBack.j0 k l0 bt385.2.2.2.1 true bt385.1 bt385.2.1 bt385.2.2.1) else (if bt385.2.2.2.1 > 2 then (cubitlaw9_AtomBack.j0 k l0 bt385.2.2.2.1 true bt385.1 bt385.2.1 bt385.2.2.1) else (cubitlaw9_AtomBack.j0 k l0 bt385.2.2.2.1 (decide (bt385.2.2.2.1 > (l0.length : Int))) bt385.1 bt385.2.1 bt385.2.2.1))) else (if bt385.2.2.2.1 = 0 then (if (bt385.1.toList == ([] : List UInt8) && (bt385.2.1.toList == ([] : List UInt8) && (bt385.2.2.1 == 0))) = true then (some true) else (some false)) else (some false)))))) else (some false)) = some true := H
  have A2 := Aside0.mk A20
  clear A20
  by_cases c3 : t378 = true
  · subst c3
    have H1 : (if (l0.length : Int) > 12 then (some true) else ((cubitlaw9_some.f).bind fun bt379 => ((atom_Parse.f k bt379.1 bt379.2 l0).bind fun bt385 => (if bt385.2.2.2.2 = true then (if bt385.2.2.2.1 < 1 then (cubitlaw9_AtomBack.j0 k l0 bt385.2.2.2.1 true bt385.1 bt385.2.1 bt385.2.2.1) else (if bt385.2.2.2.1 > 2 then (cubitlaw9_AtomBack.j0 k l0 bt385.2.2.2.1 true bt385.1 bt385.2.1 bt385.2.2.1) else (cubitlaw9_AtomBack.j0 k l0 bt385.2.2.2.1 (decide (bt385.2.2.2.1 > (l0.length : Int))) bt385.1 bt385.2.1 bt385.2.2.1))) else (if bt385.2.2.2.1 = 0 then (if (bt385.1.toList == ([] : List UInt8) && (bt385.2.1.toList == ([] : List UInt8) && (bt385.2.2.1 == 0))) = true then (some true) else (some false)) else (some false)))))) = some true := by (rw [if_pos rfl] at H); first | done | exact H
    clear H
    have H := H1
    clear H1
    by_cases c4 : (l0.length : Int) > 12
    · rw [if_pos c4] at H
      have c4b0 : decide (12 < (l0.length : Int)) = true := decide_eq_true c4
      have c4b1 : decide (12 < l0.length) = true := decide_eq_true (by omega)
      clear c4
      clear H
      go_enter Tryd.func13, Tryd.ntmps13
      go_wp2_with (first | ((with_reducible refine gate_callee (f := 40) rfl ?_); refine goesL_ (some 7) rfl rfl Tryd.func40 (by kernel_rfl) rfl #[] rfl (by (try simp only [List.map_toArray, List.map_cons, List.map_nil]); first | done | rfl | (simp only [List.length_drop, List.length_take]; rfl)) ?_; (with_reducible refine (cubitlaw9_awake.calls k  true _ A2.out rfl ?side1).mono ?_); (case side1 => exact Glob.below HG.out (by repeat (first | (with_reducible first | exact HB.out | apply below_alloc | apply pw_below_drewN | apply below_drew1) | exact HB.out))); rintro e w5 ⟨rfl, hb⟩; refine ⟨_, rfl, ?_⟩; have n0_ := Aside0.mk (below_step (by repeat (first | (with_reducible first | exact HB.out | apply below_alloc | apply pw_below_drewN | apply below_drew1) | exact HB.out)) hb); clear HB; have HB := n0_; clear n0_; (try clear hb); (try clear hb2); (try clear hk); (try clear hi)))
      go_ret
      exact ⟨by first | rfl | (simp [errW_none, errW_some] <;> rfl) | (simp [*, errW_none, errW_some] <;> rfl), by repeat (first | (with_reducible first | exact HB.out | apply below_alloc | apply pw_below_drewN | apply below_drew1) | exact HB.out)⟩
    · rw [if_neg c4] at H
      have c4b0 : decide (12 < (l0.length : Int)) = false := decide_eq_false c4
      have c4b1 : decide (12 < l0.length) = false := decide_eq_false (by omega)
      clear c4
      replace H := Option.bind_eq_some_iff.mp H
      obtain ⟨⟨t379, t382⟩, A60, H⟩ := H
      replace H : ((atom_Parse.f k t379 t382 l0).bind fun bt385 => (if bt385.2.2.2.2 = true then (if bt385.2.2.2.1 < 1 then (cubitlaw9_AtomBack.j0 k l0 bt385.2.2.2.1 true bt385.1 bt385.2.1 bt385.2.2.1) else (if bt385.2.2.2.1 > 2 then (cubitlaw9_AtomBack.j0 k l0 bt385.2.2.2.1 true bt385.1 bt385.2.1 bt385.2.2.1) else (cubitlaw9_AtomBack.j0 k l0 bt385.2.2.2.1 (decide (bt385.2.2.2.1 > (l0.length : Int))) bt385.1 bt385.2.1 bt385.2.2.1))) else (if bt385.2.2.2.1 = 0 then (if (bt385.1.toList == ([] : List UInt8) && (bt385.2.1.toList == ([] : List UInt8) && (bt385.2.2.1 == 0))) = true then (some true) else (some false)) else (some false)))) = some true := H
      have A6 := Aside0.mk A60
      clear A60
      replace H := Option.bind_eq_some_iff.mp H
      obtain ⟨⟨t385, t386, t387, t388, t389⟩, A70, H⟩ := H
      replace H : (if t389 = true then (if t388 < 1 then (cubitlaw9_AtomBack.j0 k l0 t388 true t385 t386 t387) else (if t388 > 2 then (cubitlaw9_AtomBack.j0 k l0 t388 true t385 t386 t387) else (cubitlaw9_AtomBack.j0 k l0 t388 (decide (t388 > (l0.length : Int))) t385 t386 t387))) else (if t388 = 0 then (if (t385.toList == ([] : List UInt8) && (t386.toList == ([] : List UInt8) && (t387 == 0))) = true then (some true) else (some false)) else (some false))) = some true := H
      have A7 := Aside0.mk A70
      clear A70
      by_cases c8 : t389 = true
      · subst c8
        have H1 : (if t388 < 1 then (cubitlaw9_AtomBack.j0 k l0 t388 true t385 t386 t387) else (if t388 > 2 then (cubitlaw9_AtomBack.j0 k l0 t388 true t385 t386 t387) else (cubitlaw9_AtomBack.j0 k l0 t388 (decide (t388 > (l0.length : Int))) t385 t386 t387))) = some true := by (rw [if_pos rfl] at H); first | done | exact H
        clear H
        have H := H1
        clear H1
        have HC9 := Aside0.mk H
        clear H
        go_enter Tryd.func13, Tryd.ntmps13
        go_upto_region 8 with (first | ((with_reducible refine gate_callee (f := 40) rfl ?_); refine goesL_ (some 7) rfl rfl Tryd.func40 (by kernel_rfl) rfl #[] rfl (by (try simp only [List.map_toArray, List.map_cons, List.map_nil]); first | done | rfl | (simp only [List.length_drop, List.length_take]; rfl)) ?_; (with_reducible refine (cubitlaw9_awake.calls k  true _ A2.out rfl ?side1).mono ?_); (case side1 => exact Glob.below HG.out (by repeat (first | (with_reducible first | exact HB.out | apply below_alloc | apply pw_below_drewN | apply below_drew1) | exact HB.out))); rintro e w10 ⟨rfl, hb⟩; refine ⟨_, rfl, ?_⟩; have n0_ := Aside0.mk (below_step (by repeat (first | (with_reducible first | exact HB.out | apply below_alloc | apply pw_below_drewN | apply below_drew1) | exact HB.out)) hb); clear HB; have HB := n0_; clear n0_; (try clear hb); (try clear hb2); (try clear hk); (try clear hi)) | ((with_reducible refine gate_callee (f := 42) rfl ?_); refine goesL_ (some 13) rfl rfl Tryd.func42 (by kernel_rfl) rfl #[] rfl (by (try simp only [List.map_toArray, List.map_cons, List.map_nil]); first | done | rfl | (simp only [List.length_drop, List.length_take]; rfl)) ?_; (with_reducible refine (cubitlaw9_some.calls  t379 t382 _ A6.out ?side1).mono ?_); (case side1 => exact Glob.below HG.out (by repeat (first | (with_reducible first | exact HB.out | apply below_alloc | apply pw_below_drewN | apply below_drew1) | exact HB.out))); rintro e w11 ⟨v380, v383, rfl, ho0, ho1, hb⟩; refine ⟨_, rfl, ?_⟩; have n0_ := Aside0.mk (Kd.R_lower ho0 (below_size (by repeat (first | (with_reducible first | exact HB.out | apply below_alloc | apply pw_below_drewN | apply below_drew1) | exact HB.out)))); have n1_ := Aside0.mk (Kd.R_lower ho1 (below_size (by repeat (first | (with_reducible first | exact HB.out | apply below_alloc | apply pw_below_drewN | apply below_drew1) | exact HB.out)))); have n2_ := Aside0.mk (below_step (by repeat (first | (with_reducible first | exact HB.out | apply below_alloc | apply pw_below_drewN | apply below_drew1) | exact HB.out)) hb); clear HB; have HO381 := n0_; have HO384 := n1_; have HB := n2_; clear n0_ n1_ n2_; (try clear hb); (try clear hb2); (try clear hk); (try clear hi); (try clear ho0); (try clear ho1); obtain ⟨Ao12, co12, eo12⟩ := Kd.R_slice HO381.out; subst eo12; obtain ⟨Ao13, co13, eo13⟩ := Kd.R_slice HO384.out; subst eo13) | ((with_reducible refine gate_callee (f := 41) rfl ?_); refine goesL_ (some 15) rfl rfl Tryd.func41 (by kernel_rfl) rfl #[.agg #[.slice Ao12 t379.length co12, .slice Ao13 t382.length co13], .slice A0 l0.length c0] rfl (by (try simp only [List.map_toArray, List.map_cons, List.map_nil]); first | done | rfl | (simp only [List.length_drop, List.length_take]; rfl)) ?_; (with_reducible refine (atom_Parse.calls k _ _ t379 _ _ t382 _ _ l0 t385 t386 t387 t388 true _ ?side1 ?side2 ?side3 ?side4 ?side5 ?side6 A7.out ?side7).mono ?_); (case side1 => repeat (first | exact (Kd.R_reads' HO381.out).2.2 | (with_reducible refine Kd.C_alloc ?_ _) | (with_reducible refine Kd.C_drewN ?_ _) | (with_reducible refine Kd.C_drew ?_))); (case side2 => exact (Kd.R_reads' HO381.out).2.1); (case side3 => repeat (first | exact (Kd.R_reads' HO384.out).2.2 | (with_reducible refine Kd.C_alloc ?_ _) | (with_reducible refine Kd.C_drewN ?_ _) | (with_reducible refine Kd.C_drew ?_))); (case side4 => exact (Kd.R_reads' HO384.out).2.1); (case side5 => repeat (first | exact (Kd.C_below HR0.out HB.out) | (with_reducible refine Kd.C_alloc ?_ _) | (with_reducible refine Kd.C_drewN ?_ _) | (with_reducible refine Kd.C_drew ?_))); (case side6 => exact HC0.out); (case side7 => exact Glob.below HG.out (by repeat (first | (with_reducible first | exact HB.out | apply below_alloc | apply pw_below_drewN | apply below_drew1) | exact HB.out))); rintro e w14 ⟨rfl, hb⟩; refine ⟨_, rfl, ?_⟩; have n0_ := Aside0.mk (Kd.R_below (by (with_reducible repeat (first | apply Kd.R_alloc | apply Kd.R_drewN | apply Kd.R_drew)); exact HO381.out) hb); have n1_ := Aside0.mk (Kd.R_below (by (with_reducible repeat (first | apply Kd.R_alloc | apply Kd.R_drewN | apply Kd.R_drew)); exact HO384.out) hb); have n2_ := Aside0.mk (below_step (by repeat (first | (with_reducible first | exact HB.out | apply below_alloc | apply pw_below_drewN | apply below_drew1) | exact HB.out)) hb); clear HO381; clear HO384; clear HB; have HO381 := n0_; have HO384 := n1_; have HB := n2_; clear n0_ n1_ n2_; (try clear hb); (try clear hb2); (try clear hk); (try clear hi)) | ((with_reducible refine gate_dst (N := 3) rfl ?_); (try (refine gate_guard (by rfl) ?_; dsimp only)); refine box_event ?hg (N := 3) ?hd (cs := #[.string (⟨#[]⟩ : ByteArray), .string (⟨#[]⟩ : ByteArray), .int .i64 0]) (t := 49) ?hr ?_; (case hd => rfl); (case hg => rfl); (case hr => first | (go_simp; done) | (go_simp; rfl)); intro gb390 hg w15 hbox hb; have n0_ := Aside0.mk (Kd.R_below (by (with_reducible repeat (first | apply Kd.R_alloc | apply Kd.R_drewN | apply Kd.R_drew)); exact HO381.out) hb); have n1_ := Aside0.mk (Kd.R_below (by (with_reducible repeat (first | apply Kd.R_alloc | apply Kd.R_drewN | apply Kd.R_drew)); exact HO384.out) hb); have n2_ := Aside0.mk (below_step (by repeat (first | (with_reducible first | exact HB.out | apply below_alloc | apply pw_below_drewN | apply below_drew1) | exact HB.out)) hb); have n3_ := Aside0.mk (hbox); have n4_ := Aside0.mk ((by rw [hg]; exact (below_size (by repeat (first | (with_reducible first | exact HB.out | apply below_alloc | apply pw_below_drewN | apply below_drew1) | exact HB.out))) : w.heap.size ≤ gb390)); have n5_ := Aside0.mk ((by rw [hg]; exact (below_size (by repeat (first | (with_reducible first | exact HB.out | apply below_alloc | apply pw_below_drewN | apply below_drew1) | exact HB.out))) : w.heap.size ≤ gb390)); clear HO381; clear HO384; clear HB; have HO381 := n0_; have HO384 := n1_; have HB := n2_; have BK390 := n3_; have GW390 := n4_; have GE390 := n5_; clear n0_ n1_ n2_ n3_ n4_ n5_; clear hb hbox hg; have hcz16_0 : w15.cell? ⟨gb390, 0, none⟩ = some (.string (⟨#[]⟩ : ByteArray)) := (blk_cell BK390.out 0).trans rfl; have hcz16_1 : w15.cell? ⟨gb390, 1, none⟩ = some (.string (⟨#[]⟩ : ByteArray)) := (blk_cell BK390.out 1).trans rfl; have hcz16_2 : w15.cell? ⟨gb390, 2, none⟩ = some (.int .i64 0) := (blk_cell BK390.out 2).trans rfl; have hfz16_0 := blk_frozen BK390.out 0; have hfz16_1 := blk_frozen BK390.out 1; have hfz16_2 := blk_frozen BK390.out 2))
        (try simp only [Act.put, List.setIfInBounds_toArray, List.set_cons_zero, List.set_cons_succ])
        go_cut [39] (fun v39 wc => ∃ (kq : Nat) (x39_8 : Bool), v39 = .bool x39_8 ∧ Aside0 (cubitlaw9_AtomBack.j0 kq l0 t388 x39_8 t385 t386 t387 = some true) ∧ Aside0 (kq ≤ k) ∧ Aside0 (wc.heap[gb390]? = some (.cells #[.string t385, .string t386, .int .i64 t387] 49 (0, 0))) ∧ Aside0 (Below w.heap.size w wc))
        case first =>
          have H := HC9.out
          clear HC9
          by_cases c17 : t388 < 1
          · rw [if_pos c17] at H
            have c17b0 : decide (t388 < 1) = true := decide_eq_true c17
            clear c17
            (first | rw [c17b0] | (simp only [i64_w, i32_w]; rw [c17b0]) | skip)
            have H' := Aside0.mk H
            clear H
            go_wp2
            go_meet
            case rel => exact ⟨_, (true), (by first | rfl | (simp; done) | (simp only [i64_w, i32_w]; done) | (simp [*]; done)), H', ⟨by first | omega | exact Nat.le_refl _⟩, ⟨by (with_reducible repeat (first | refine blk_drewN ?_ _ | refine blk_drew ?_ | refine blk_alloc ?_ _)); refine blk_put (cs := #[.string t385, .string t386, .int .i64 0]) ?_ 2 _ rfl; (with_reducible repeat (first | refine blk_drewN ?_ _ | refine blk_drew ?_ | refine blk_alloc ?_ _)); refine blk_put (cs := #[.string t385, .string (⟨#[]⟩ : ByteArray), .int .i64 0]) ?_ 1 _ rfl; (with_reducible repeat (first | refine blk_drewN ?_ _ | refine blk_drew ?_ | refine blk_alloc ?_ _)); refine blk_put (cs := #[.string (⟨#[]⟩ : ByteArray), .string (⟨#[]⟩ : ByteArray), .int .i64 0]) ?_ 0 _ rfl; (with_reducible repeat (first | refine blk_drewN ?_ _ | refine blk_drew ?_ | refine blk_alloc ?_ _)); exact BK390.out⟩, ⟨by repeat (first | (with_reducible first | exact HB.out | apply below_alloc | apply pw_below_drewN | apply below_drew1 | refine below_set ?_ GE390.out) | exact HB.out)⟩⟩
          · rw [if_neg c17] at H
            have c17b0 : decide (t388 < 1) = false := decide_eq_false c17
            clear c17
            (first | rw [c17b0] | (simp only [i64_w, i32_w]; rw [c17b0]) | skip)
            by_cases c18 : t388 > 2
            · rw [if_pos c18] at H
              have c18b0 : decide (2 < t388) = true := decide_eq_true c18
              clear c18
              have H' := Aside0.mk H
              clear H
              go_wp2
              go_meet
              case rel => exact ⟨_, (true), (by first | rfl | (simp; done) | (simp only [i64_w, i32_w]; done) | (simp [*]; done)), H', ⟨by first | omega | exact Nat.le_refl _⟩, ⟨by (with_reducible repeat (first | refine blk_drewN ?_ _ | refine blk_drew ?_ | refine blk_alloc ?_ _)); refine blk_put (cs := #[.string t385, .string t386, .int .i64 0]) ?_ 2 _ rfl; (with_reducible repeat (first | refine blk_drewN ?_ _ | refine blk_drew ?_ | refine blk_alloc ?_ _)); refine blk_put (cs := #[.string t385, .string (⟨#[]⟩ : ByteArray), .int .i64 0]) ?_ 1 _ rfl; (with_reducible repeat (first | refine blk_drewN ?_ _ | refine blk_drew ?_ | refine blk_alloc ?_ _)); refine blk_put (cs := #[.string (⟨#[]⟩ : ByteArray), .string (⟨#[]⟩ : ByteArray), .int .i64 0]) ?_ 0 _ rfl; (with_reducible repeat (first | refine blk_drewN ?_ _ | refine blk_drew ?_ | refine blk_alloc ?_ _)); exact BK390.out⟩, ⟨by repeat (first | (with_reducible first | exact HB.out | apply below_alloc | apply pw_below_drewN | apply below_drew1 | refine below_set ?_ GE390.out) | exact HB.out)⟩⟩
            · rw [if_neg c18] at H
              have c18b0 : decide (2 < t388) = false := decide_eq_false c18
              clear c18
              have H' := Aside0.mk H
              clear H
              go_wp2
              go_meet
              case rel => exact ⟨_, (decide (t388 > (l0.length : Int))), (by first | rfl | (simp; done) | (simp only [i64_w, i32_w]; done) | (simp [*]; done)), H', ⟨by first | omega | exact Nat.le_refl _⟩, ⟨by (with_reducible repeat (first | refine blk_drewN ?_ _ | refine blk_drew ?_ | refine blk_alloc ?_ _)); refine blk_put (cs := #[.string t385, .string t386, .int .i64 0]) ?_ 2 _ rfl; (with_reducible repeat (first | refine blk_drewN ?_ _ | refine blk_drew ?_ | refine blk_alloc ?_ _)); refine blk_put (cs := #[.string t385, .string (⟨#[]⟩ : ByteArray), .int .i64 0]) ?_ 1 _ rfl; (with_reducible repeat (first | refine blk_drewN ?_ _ | refine blk_drew ?_ | refine blk_alloc ?_ _)); refine blk_put (cs := #[.string (⟨#[]⟩ : ByteArray), .string (⟨#[]⟩ : ByteArray), .int .i64 0]) ?_ 0 _ rfl; (with_reducible repeat (first | refine blk_drewN ?_ _ | refine blk_drew ?_ | refine blk_alloc ?_ _)); exact BK390.out⟩, ⟨by repeat (first | (with_reducible first | exact HB.out | apply below_alloc | apply pw_below_drewN | apply below_drew1 | refine below_set ?_ GE390.out) | exact HB.out)⟩⟩
        case rest =>
          clear HC9
          try clear c1
          try clear p2
          try clear c3
          try clear c4
          try clear c4b0
          try clear c4b1
          try clear c8
          try clear c13
          try clear c17
          try clear c17b0
          try clear c18
          try clear c18b0
          try clear hcz16_0
          try clear hcz16_1
          try clear hcz16_2
          try clear hfz16_0
          try clear hfz16_1
          try clear hfz16_2
          obtain ⟨kq, x39_8, rfl, HA, HJ8, BK390, HB⟩ := hcut
          cases kq with
          | zero => exact absurd HA.out (by simp [cubitlaw9_AtomBack.j0])
          | succ kj8 =>
            have H := HA.out
            clear HA
            simp only [cubitlaw9_AtomBack.j0] at H
            by_cases c19 : x39_8 = true
            · subst c19
              have H1 : (some false) = some true := by (rw [if_pos rfl] at H); first | done | exact H
              clear H
              have H := H1
              clear H1
              exact absurd H (by simp)
            · replace c19 := Bool.eq_false_iff.mpr c19
              subst c19
              have H1 : (if 0 < (l0.length : Int) then (if t388 = 2 then (if (rdOf ByteArray.empty l0 0).size + 1 ≤ 9223372036854775807 then (if 1 < (l0.length : Int) then (if ((rdOf ByteArray.empty l0 0) ++ (⟨#[45]⟩ : ByteArray)).size + (rdOf ByteArray.empty l0 1).size ≤ 9223372036854775807 then (cubitlaw9_AtomBack.j1 kj8 (((rdOf ByteArray.empty l0 0) ++ (⟨#[45]⟩ : ByteArray)) ++ (rdOf ByteArray.empty l0 1)) t385 t386 t387) else (none)) else (none)) else (none)) else (cubitlaw9_AtomBack.j1 kj8 (rdOf ByteArray.empty l0 0) t385 t386 t387)) else (none)) = some true := by (rw [if_neg (show ¬ (false = true) by decide)] at H); first | done | exact H
              clear H
              have H := H1
              clear H1
              by_cases c20 : 0 < (l0.length : Int)
              · rw [if_pos c20] at H
                have c20b0 : decide (0 < (l0.length : Int)) = true := decide_eq_true c20
                have c20b1 : decide (0 < l0.length) = true := decide_eq_true (by omega)
                clear c20
                have HC21 := Aside0.mk H
                clear H
                have p391 : 0 ≤ (0 : Int) := (by omega)
                have q391 : 0 < (l0.length : Int) := of_decide_eq_true (by first | (with_reducible assumption) | assumption)
                obtain ⟨ad391, e391, hx391_0⟩ := Kd.at_string HR0.out 0 p391 q391
                cases e391
                have qi391 : (0 < l0.length) = True := eq_true (by omega)
                (try rw [show ((0 : Int)).toNat = 0 from rfl] at hx391_0)
                (try rw [Addr.add_zero'] at hx391_0)
                replace hx391_0 := (HB.out.cell (World.block_lt_of_cell? w _ hx391_0)).trans hx391_0
                replace p391 := eq_true p391
                replace q391 := eq_true q391
                go_upto_if 44 with (fail)
                go_cut [6] (fun v6 wc => ∃ (kq : Nat) (x6_20 : ByteArray), v6 = .string x6_20 ∧ Aside0 (cubitlaw9_AtomBack.j1 kq x6_20 t385 t386 t387 = some true) ∧ Aside0 (kq ≤ kj8) ∧ Aside0 (wc.heap[gb390]? = some (.cells #[.string t385, .string t386, .int .i64 t387] 49 (0, 0))) ∧ Aside0 (Below w.heap.size w wc))
                case first =>
                  have H := HC21.out
                  clear HC21
                  by_cases c22 : t388 = 2
                  · rw [if_pos c22] at H
                    have c22b0 : (t388 == 2) = true := beq_iff_eq.mpr c22
                    have c22b1 : (t388 != 2) = false := bne_eq_false_iff_eq.mpr c22
                    clear c22
                    (first | rw [c22b0] | (simp only [i64_w, i32_w]; rw [c22b0]) | skip)
                    by_cases c23 : (rdOf ByteArray.empty l0 0).size + 1 ≤ 9223372036854775807
                    · rw [if_pos c23] at H
                      have c23b0 := eq_true c23
                      have c23b1 : decide ((rdOf ByteArray.empty l0 0).size + 1 ≤ 9223372036854775807) = true := decide_eq_true c23
                      try have c23b2 : (9223372036854775807 < (rdOf ByteArray.empty l0 0).size + 1) = False := eq_false (Nat.not_lt.2 c23)
                      by_cases c24 : 1 < (l0.length : Int)
                      · rw [if_pos c24] at H
                        have c24b0 : decide (1 < (l0.length : Int)) = true := decide_eq_true c24
                        have c24b1 : decide (1 < l0.length) = true := decide_eq_true (by omega)
                        clear c24
                        by_cases c25 : ((rdOf ByteArray.empty l0 0) ++ (⟨#[45]⟩ : ByteArray)).size + (rdOf ByteArray.empty l0 1).size ≤ 9223372036854775807
                        · rw [if_pos c25] at H
                          have c25b0 := eq_true c25
                          have c25b1 : decide (((rdOf ByteArray.empty l0 0) ++ (⟨#[45]⟩ : ByteArray)).size + (rdOf ByteArray.empty l0 1).size ≤ 9223372036854775807) = true := decide_eq_true c25
                          try have c25b2 : (9223372036854775807 < ((rdOf ByteArray.empty l0 0) ++ (⟨#[45]⟩ : ByteArray)).size + (rdOf ByteArray.empty l0 1).size) = False := eq_false (Nat.not_lt.2 c25)
                          try have c25b9_ : (9223372036854775807 < (rdOf ByteArray.empty l0 0).size + 1 + (rdOf ByteArray.empty l0 1).size) = False := eq_false (Nat.not_lt.2 (by have h_ := c25; simp only [ByteArray.size_append] at h_; exact h_))
                          have H' := Aside0.mk H
                          clear H
                          have p392 : 0 ≤ (1 : Int) := (by omega)
                          have q392 : 1 < (l0.length : Int) := of_decide_eq_true (by first | (with_reducible assumption) | assumption)
                          obtain ⟨ad392, e392, hx392_0⟩ := Kd.at_string HR0.out 1 p392 q392
                          obtain rfl : ad391 = ad392 := (by injection e392)
                          (try simp only [show (1 : Int).toNat = 1 from rfl, Nat.reduceMul, Nat.reduceEqDiff, Go.Addr.add, ↓reduceIte] at hx392_0)
                          have qi392 : (1 < l0.length) = True := eq_true (by omega)
                          (try rw [show ((1 : Int)).toNat = 1 from rfl] at hx392_0)
                          replace hx392_0 := (HB.out.cell (World.block_lt_of_cell? w _ hx392_0)).trans hx392_0
                          replace p392 := eq_true p392
                          replace q392 := eq_true q392
                          go_wp2
                          go_meet
                          case rel => exact ⟨_, (((rdOf ByteArray.empty l0 0) ++ (⟨#[45]⟩ : ByteArray)) ++ (rdOf ByteArray.empty l0 1)), (by first | rfl | (simp; done) | (simp only [i64_w, i32_w]; done) | (simp [*]; done)), H', ⟨by have := HJ8.out; first | omega | exact Nat.le_refl _⟩, ⟨by (with_reducible repeat (first | refine blk_drewN ?_ _ | refine blk_drew ?_ | refine blk_alloc ?_ _)); exact BK390.out⟩, ⟨by repeat (first | (with_reducible first | exact HB.out | apply below_alloc | apply pw_below_drewN | apply below_drew1 | refine below_set ?_ GE390.out) | exact HB.out)⟩⟩
                        · rw [if_neg c25] at H
                          exact absurd H (by simp)
                      · rw [if_neg c24] at H
                        exact absurd H (by simp)
                    · rw [if_neg c23] at H
                      exact absurd H (by simp)
                  · rw [if_neg c22] at H
                    have c22b0 : (t388 == 2) = false := beq_eq_false_iff_ne.mpr c22
                    have c22b1 : (t388 != 2) = true := bne_iff_ne.mpr c22
                    (first | rw [c22b0] | (simp only [i64_w, i32_w]; rw [c22b0]) | skip)
                    have H' := Aside0.mk H
                    clear H
                    go_wp2
                    go_meet
                    case rel => exact ⟨_, (rdOf ByteArray.empty l0 0), (by first | rfl | (simp; done) | (simp only [i64_w, i32_w]; done) | (simp [*]; done)), H', ⟨by have := HJ8.out; first | omega | exact Nat.le_refl _⟩, ⟨by (with_reducible repeat (first | refine blk_drewN ?_ _ | refine blk_drew ?_ | refine blk_alloc ?_ _)); exact BK390.out⟩, ⟨by repeat (first | (with_reducible first | exact HB.out | apply below_alloc | apply pw_below_drewN | apply below_drew1 | refine below_set ?_ GE390.out) | exact HB.out)⟩⟩
                case rest =>
                  clear HC21
                  try clear c1
                  try clear c2
                  try clear p2
                  try clear c3
                  try clear p3
                  try clear q3
                  try clear hx3
                  try clear qi3
                  try clear c4
                  try clear c4b0
                  try clear c4b1
                  try clear c8
                  try clear c13
                  try clear c17
                  try clear c17b0
                  try clear c18
                  try clear c18b0
                  try clear c19
                  try clear c20
                  try clear c20b0
                  try clear c20b1
                  try clear c22
                  try clear c22b0
                  try clear c22b1
                  try clear c23
                  try clear c23b0
                  try clear c23b1
                  try clear c23b2
                  try clear c24
                  try clear c24b0
                  try clear c24b1
                  try clear c25
                  try clear c25b0
                  try clear c25b1
                  try clear c25b2
                  try clear hcz16_0
                  try clear hcz16_1
                  try clear hcz16_2
                  try clear hfz16_0
                  try clear hfz16_1
                  try clear hfz16_2
                  try clear hx391_0
                  try clear hx392_0
                  try clear p2
                  try clear p391
                  try clear p392
                  try clear q391
                  try clear q392
                  obtain ⟨kq, x6_20, rfl, HA, HJ20, BK390, HB⟩ := hcut
                  cases kq with
                  | zero => exact absurd HA.out (by simp [cubitlaw9_AtomBack.j1])
                  | succ kj20 =>
                    have H := HA.out
                    clear HA
                    simp only [cubitlaw9_AtomBack.j1] at H
                    replace H := Option.bind_eq_some_iff.mp H
                    obtain ⟨t393, A260, H⟩ := H
                    replace H : (if t393.toList = x6_20.toList then ((atom_Less.f kj20 t385 t386 t387 t385 t386 t387).bind fun t394 => (if t394 = true then (some false) else (some true))) else (some false)) = some true := H
                    have A26 := Aside0.mk A260
                    clear A260
                    by_cases c27 : t393.toList = x6_20.toList
                    · rw [if_pos c27] at H
                      have c27b0 : (t393.toList == x6_20.toList) = true := beq_iff_eq.mpr c27
                      have c27b1 : (t393.toList != x6_20.toList) = false := bne_eq_false_iff_eq.mpr c27
                      clear c27
                      replace H := Option.bind_eq_some_iff.mp H
                      obtain ⟨t394, A280, H⟩ := H
                      replace H : (if t394 = true then (some false) else (some true)) = some true := H
                      have A28 := Aside0.mk A280
                      clear A280
                      by_cases c29 : t394 = true
                      · subst c29
                        have H1 : (some false) = some true := by (rw [if_pos rfl] at H); first | done | exact H
                        clear H
                        have H := H1
                        clear H1
                        exact absurd H (by simp)
                      · replace c29 := Bool.eq_false_iff.mpr c29
                        subst c29
                        have H1 : (some true) = some true := by (rw [if_neg (show ¬ (false = true) by decide)] at H); first | done | exact H
                        clear H
                        have H := H1
                        clear H1
                        clear H
                        have hcz30_0 : wc.cell? ⟨gb390, 0, none⟩ = some (.string t385) := (blk_cell BK390.out 0).trans rfl
                        have hcz30_1 : wc.cell? ⟨gb390, 1, none⟩ = some (.string t386) := (blk_cell BK390.out 1).trans rfl
                        have hcz30_2 : wc.cell? ⟨gb390, 2, none⟩ = some (.int .i64 t387) := (blk_cell BK390.out 2).trans rfl
                        have hfz30_0 := blk_frozen BK390.out 0
                        have hfz30_1 := blk_frozen BK390.out 1
                        have hfz30_2 := blk_frozen BK390.out 2
                        go_wp2_with (first | ((with_reducible refine gate_callee (f := 44) rfl ?_); refine goesL_ (some 52) rfl rfl Tryd.func44 (by kernel_rfl) rfl #[.agg #[.string t385, .string t386, .int .i64 t387]] rfl (by (try simp only [List.map_toArray, List.map_cons, List.map_nil]); first | done | rfl | (simp only [List.length_drop, List.length_take]; rfl)) ?_; (with_reducible refine (atom_Show.calls kj20 t385 t386 t387 t393 _ A26.out ?side1).mono ?_); (case side1 => exact Glob.below HG.out (by repeat (first | (with_reducible first | exact HB.out | apply below_alloc | apply pw_below_drewN | apply below_drew1 | refine below_set ?_ GE390.out) | exact HB.out))); rintro e w31 ⟨rfl, hb⟩; refine ⟨_, rfl, ?_⟩; have n0_ := Aside0.mk (blk_below (g := gb390) (o := .cells #[.string t385, .string t386, .int .i64 t387] 49 (0, 0)) (by (with_reducible repeat (first | refine blk_drewN ?_ _ | refine blk_drew ?_ | refine blk_alloc ?_ _)); exact BK390.out) hb); have n1_ := Aside0.mk (below_step (by repeat (first | (with_reducible first | exact HB.out | apply below_alloc | apply pw_below_drewN | apply below_drew1 | refine below_set ?_ GE390.out) | exact HB.out)) hb); clear BK390; clear HB; have BK390 := n0_; have HB := n1_; clear n0_ n1_; (try clear hb); (try clear hb2); (try clear hk); (try clear hi); have hcz32_0 : w31.cell? ⟨gb390, 0, none⟩ = some (.string t385) := (blk_cell BK390.out 0).trans rfl; have hcz32_1 : w31.cell? ⟨gb390, 1, none⟩ = some (.string t386) := (blk_cell BK390.out 1).trans rfl; have hcz32_2 : w31.cell? ⟨gb390, 2, none⟩ = some (.int .i64 t387) := (blk_cell BK390.out 2).trans rfl; have hfz32_0 := blk_frozen BK390.out 0; have hfz32_1 := blk_frozen BK390.out 1; have hfz32_2 := blk_frozen BK390.out 2) | (go_at_call 45; (with_reducible refine (atom_Less.calls kj20 t385 t386 t387 t385 t386 t387 false _ A28.out ?side1).mono ?_); (case side1 => exact Glob.below HG.out (by repeat (first | (with_reducible first | exact HB.out | apply below_alloc | apply pw_below_drewN | apply below_drew1 | refine below_set ?_ GE390.out) | exact HB.out))); rintro e w33 ⟨rfl, hb⟩; have n0_ := Aside0.mk (blk_below (g := gb390) (o := .cells #[.string t385, .string t386, .int .i64 t387] 49 (0, 0)) (by (with_reducible repeat (first | refine blk_drewN ?_ _ | refine blk_drew ?_ | refine blk_alloc ?_ _)); exact BK390.out) hb); have n1_ := Aside0.mk (below_step (by repeat (first | (with_reducible first | exact HB.out | apply below_alloc | apply pw_below_drewN | apply below_drew1 | refine below_set ?_ GE390.out) | exact HB.out)) hb); clear BK390; clear HB; have BK390 := n0_; have HB := n1_; clear n0_ n1_; (try clear hb); (try clear hb2); (try clear hk); (try clear hi)))
                        go_ret
                        exact ⟨by first | rfl | (simp [errW_none, errW_some] <;> rfl) | (simp [*, errW_none, errW_some] <;> rfl), by repeat (first | (with_reducible first | exact HB.out | apply below_alloc | apply pw_below_drewN | apply below_drew1 | refine below_set ?_ GE390.out) | exact HB.out)⟩
                    · rw [if_neg c27] at H
                      have c27b0 : (t393.toList == x6_20.toList) = false := beq_eq_false_iff_ne.mpr c27
                      have c27b1 : (t393.toList != x6_20.toList) = true := bne_iff_ne.mpr c27
                      exact absurd H (by simp)
              · rw [if_neg c20] at H
                exact absurd H (by simp)
      · replace c8 := Bool.eq_false_iff.mpr c8
        subst c8
        have H1 : (if t388 = 0 then (if (t385.toList == ([] : List UInt8) && (t386.toList == ([] : List UInt8) && (t387 == 0))) = true then (some true) else (some false)) else (some false)) = some true := by (rw [if_neg (show ¬ (false = true) by decide)] at H); first | done | exact H
        clear H
        have H := H1
        clear H1
        by_cases c34 : t388 = 0
        · rw [if_pos c34] at H
          have c34b0 : (t388 == 0) = true := beq_iff_eq.mpr c34
          have c34b1 : (t388 != 0) = false := bne_eq_false_iff_eq.mpr c34
          clear c34
          by_cases c35 : (t385.toList == ([] : List UInt8) && (t386.toList == ([] : List UInt8) && (t387 == 0))) = true
          · rw [if_pos c35] at H
            have c35b0 : (t385.toList == ([] : List UInt8) && (t386.toList == ([] : List UInt8) && (t387 == 0))) = true := c35
            (try (have c35b1 : decide (t385.toList = ([] : List UInt8) && (t386.toList == ([] : List UInt8) && (t387 == 0))) = true := by simpa using c35))
            (try (have c35b2 : (t385.toList == ([] : List UInt8) && (t386.toList == ([] : List UInt8) && (t387 == 0))) = true := by simpa using c35))
            clear c35
            clear H
            go_enter Tryd.func13, Tryd.ntmps13
            go_wp2_with (first | ((with_reducible refine gate_callee (f := 40) rfl ?_); refine goesL_ (some 7) rfl rfl Tryd.func40 (by kernel_rfl) rfl #[] rfl (by (try simp only [List.map_toArray, List.map_cons, List.map_nil]); first | done | rfl | (simp only [List.length_drop, List.length_take]; rfl)) ?_; (with_reducible refine (cubitlaw9_awake.calls k  true _ A2.out rfl ?side1).mono ?_); (case side1 => exact Glob.below HG.out (by repeat (first | (with_reducible first | exact HB.out | apply below_alloc | apply pw_below_drewN | apply below_drew1) | exact HB.out))); rintro e w36 ⟨rfl, hb⟩; refine ⟨_, rfl, ?_⟩; have n0_ := Aside0.mk (below_step (by repeat (first | (with_reducible first | exact HB.out | apply below_alloc | apply pw_below_drewN | apply below_drew1) | exact HB.out)) hb); clear HB; have HB := n0_; clear n0_; (try clear hb); (try clear hb2); (try clear hk); (try clear hi)) | ((with_reducible refine gate_callee (f := 42) rfl ?_); refine goesL_ (some 13) rfl rfl Tryd.func42 (by kernel_rfl) rfl #[] rfl (by (try simp only [List.map_toArray, List.map_cons, List.map_nil]); first | done | rfl | (simp only [List.length_drop, List.length_take]; rfl)) ?_; (with_reducible refine (cubitlaw9_some.calls  t379 t382 _ A6.out ?side1).mono ?_); (case side1 => exact Glob.below HG.out (by repeat (first | (with_reducible first | exact HB.out | apply below_alloc | apply pw_below_drewN | apply below_drew1) | exact HB.out))); rintro e w37 ⟨v380, v383, rfl, ho0, ho1, hb⟩; refine ⟨_, rfl, ?_⟩; have n0_ := Aside0.mk (Kd.R_lower ho0 (below_size (by repeat (first | (with_reducible first | exact HB.out | apply below_alloc | apply pw_below_drewN | apply below_drew1) | exact HB.out)))); have n1_ := Aside0.mk (Kd.R_lower ho1 (below_size (by repeat (first | (with_reducible first | exact HB.out | apply below_alloc | apply pw_below_drewN | apply below_drew1) | exact HB.out)))); have n2_ := Aside0.mk (below_step (by repeat (first | (with_reducible first | exact HB.out | apply below_alloc | apply pw_below_drewN | apply below_drew1) | exact HB.out)) hb); clear HB; have HO381 := n0_; have HO384 := n1_; have HB := n2_; clear n0_ n1_ n2_; (try clear hb); (try clear hb2); (try clear hk); (try clear hi); (try clear ho0); (try clear ho1); obtain ⟨Ao38, co38, eo38⟩ := Kd.R_slice HO381.out; subst eo38; obtain ⟨Ao39, co39, eo39⟩ := Kd.R_slice HO384.out; subst eo39) | ((with_reducible refine gate_callee (f := 41) rfl ?_); refine goesL_ (some 15) rfl rfl Tryd.func41 (by kernel_rfl) rfl #[.agg #[.slice Ao38 t379.length co38, .slice Ao39 t382.length co39], .slice A0 l0.length c0] rfl (by (try simp only [List.map_toArray, List.map_cons, List.map_nil]); first | done | rfl | (simp only [List.length_drop, List.length_take]; rfl)) ?_; (with_reducible refine (atom_Parse.calls k _ _ t379 _ _ t382 _ _ l0 t385 t386 t387 t388 false _ ?side1 ?side2 ?side3 ?side4 ?side5 ?side6 A7.out ?side7).mono ?_); (case side1 => repeat (first | exact (Kd.R_reads' HO381.out).2.2 | (with_reducible refine Kd.C_alloc ?_ _) | (with_reducible refine Kd.C_drewN ?_ _) | (with_reducible refine Kd.C_drew ?_))); (case side2 => exact (Kd.R_reads' HO381.out).2.1); (case side3 => repeat (first | exact (Kd.R_reads' HO384.out).2.2 | (with_reducible refine Kd.C_alloc ?_ _) | (with_reducible refine Kd.C_drewN ?_ _) | (with_reducible refine Kd.C_drew ?_))); (case side4 => exact (Kd.R_reads' HO384.out).2.1); (case side5 => repeat (first | exact (Kd.C_below HR0.out HB.out) | (with_reducible refine Kd.C_alloc ?_ _) | (with_reducible refine Kd.C_drewN ?_ _) | (with_reducible refine Kd.C_drew ?_))); (case side6 => exact HC0.out); (case side7 => exact Glob.below HG.out (by repeat (first | (with_reducible first | exact HB.out | apply below_alloc | apply pw_below_drewN | apply below_drew1) | exact HB.out))); rintro e w40 ⟨rfl, hb⟩; refine ⟨_, rfl, ?_⟩; have n0_ := Aside0.mk (Kd.R_below (by (with_reducible repeat (first | apply Kd.R_alloc | apply Kd.R_drewN | apply Kd.R_drew)); exact HO381.out) hb); have n1_ := Aside0.mk (Kd.R_below (by (with_reducible repeat (first | apply Kd.R_alloc | apply Kd.R_drewN | apply Kd.R_drew)); exact HO384.out) hb); have n2_ := Aside0.mk (below_step (by repeat (first | (with_reducible first | exact HB.out | apply below_alloc | apply pw_below_drewN | apply below_drew1) | exact HB.out)) hb); clear HO381; clear HO384; clear HB; have HO381 := n0_; have HO384 := n1_; have HB := n2_; clear n0_ n1_ n2_; (try clear hb); (try clear hb2); (try clear hk); (try clear hi)) | ((with_reducible refine gate_dst (N := 3) rfl ?_); (try (refine gate_guard (by rfl) ?_; dsimp only)); refine box_event ?hg (N := 3) ?hd (cs := #[.string (⟨#[]⟩ : ByteArray), .string (⟨#[]⟩ : ByteArray), .int .i64 0]) (t := 49) ?hr ?_; (case hd => rfl); (case hg => rfl); (case hr => first | (go_simp; done) | (go_simp; rfl)); intro gb390 hg w41 hbox hb; have n0_ := Aside0.mk (Kd.R_below (by (with_reducible repeat (first | apply Kd.R_alloc | apply Kd.R_drewN | apply Kd.R_drew)); exact HO381.out) hb); have n1_ := Aside0.mk (Kd.R_below (by (with_reducible repeat (first | apply Kd.R_alloc | apply Kd.R_drewN | apply Kd.R_drew)); exact HO384.out) hb); have n2_ := Aside0.mk (below_step (by repeat (first | (with_reducible first | exact HB.out | apply below_alloc | apply pw_below_drewN | apply below_drew1) | exact HB.out)) hb); have n3_ := Aside0.mk (hbox); have n4_ := Aside0.mk ((by rw [hg]; exact (below_size (by repeat (first | (with_reducible first | exact HB.out | apply below_alloc | apply pw_below_drewN | apply below_drew1) | exact HB.out))) : w.heap.size ≤ gb390)); have n5_ := Aside0.mk ((by rw [hg]; exact (below_size (by repeat (first | (with_reducible first | exact HB.out | apply below_alloc | apply pw_below_drewN | apply below_drew1) | exact HB.out))) : w.heap.size ≤ gb390)); clear HO381; clear HO384; clear HB; have HO381 := n0_; have HO384 := n1_; have HB := n2_; have BK390 := n3_; have GW390 := n4_; have GE390 := n5_; clear n0_ n1_ n2_ n3_ n4_ n5_; clear hb hbox hg; have hcz42_0 : w41.cell? ⟨gb390, 0, none⟩ = some (.string (⟨#[]⟩ : ByteArray)) := (blk_cell BK390.out 0).trans rfl; have hcz42_1 : w41.cell? ⟨gb390, 1, none⟩ = some (.string (⟨#[]⟩ : ByteArray)) := (blk_cell BK390.out 1).trans rfl; have hcz42_2 : w41.cell? ⟨gb390, 2, none⟩ = some (.int .i64 0) := (blk_cell BK390.out 2).trans rfl; have hfz42_0 := blk_frozen BK390.out 0; have hfz42_1 := blk_frozen BK390.out 1; have hfz42_2 := blk_frozen BK390.out 2))
            go_ret
            have c35b8_ : (t385.toList.isEmpty && (t386.toList.isEmpty && t387 == 0)) = true := by simp only [Bool.and_eq_true, List.isEmpty_iff, beq_iff_eq] at c35b0 ⊢; exact c35b0
            exact ⟨by first | rfl | (show Ending.returned (Value.bool (t385.toList.isEmpty && (t386.toList.isEmpty && t387 == 0))) = Ending.returned (Value.bool true); rw [c35b8_]) | (simp [errW_none, errW_some] <;> rfl) | (simp [*, errW_none, errW_some] <;> rfl), by repeat (first | (with_reducible first | exact HB.out | apply below_alloc | apply pw_below_drewN | apply below_drew1 | refine below_set ?_ GE390.out) | exact HB.out)⟩
          · rw [if_neg c35] at H
            have c35b0 : (t385.toList == ([] : List UInt8) && (t386.toList == ([] : List UInt8) && (t387 == 0))) = false := by simpa using c35
            (try (have c35b1 : decide (t385.toList = ([] : List UInt8) && (t386.toList == ([] : List UInt8) && (t387 == 0))) = false := by simpa using c35))
            (try (have c35b2 : (t385.toList == ([] : List UInt8) && (t386.toList == ([] : List UInt8) && (t387 == 0))) = false := by simpa using c35))
            (try (have c35b3 : ¬ (t385.toList = ([] : List UInt8) && (t386.toList == ([] : List UInt8) && (t387 == 0))) := by simpa using c35))
            clear c35
            exact absurd H (by simp)
        · rw [if_neg c34] at H
          have c34b0 : (t388 == 0) = false := beq_eq_false_iff_ne.mpr c34
          have c34b1 : (t388 != 0) = true := bne_iff_ne.mpr c34
          exact absurd H (by simp)
  · replace c3 := Bool.eq_false_iff.mpr c3
    subst c3
    have H1 : (some false) = some true := by (rw [if_neg (show ¬ (false = true) by decide)] at H); first | done | exact H
    clear H
    have H := H1
    clear H1
    exact absurd H (by simp)

end Go.Proofs.YthefdpioaapomaaDoor.PC
