-- Written by this session's own run of a patched print program: see NOTES.md.
import Derived.Test.YthefdpioaapomaaDoorPA0
import Derived.Test.YthefdpioaapomaaDoorPA10
namespace Go.Proofs.YthefdpioaapomaaDoor.PA
open Go.RowKit Go.Proofs.YthefdpioaapomaaDoorW.PrintWords Go.Proofs.YthefdpioaapomaaDoorW.PrintLast Go.Proofs.YthefdpioaapomaaDoor.Ext Go.Proofs.YthefdpioaapomaaDoorW.PrintMore
attribute [local go_sem] max2_int min2_int max_two min_two max_three min_three max_four min_four   -- for this text's walks alone
set_option linter.unusedVariables false
set_option linter.unusedSimpArgs false

/-! ### cubitlaw6_WordBack: function 9 -/
mutual
def cubitlaw6_WordBack.j0 : Nat → List ByteArray → ByteArray → Bool → Option (Bool)
  | 0, _, _, _ => none
  | k + 1, x0, x1, x21 => if x21 = true then (some true) else (cubitlaw6_WordBack.l0 k x0 x1 0 0)
def cubitlaw6_WordBack.l0 : Nat → List ByteArray → ByteArray → Int → Int → Option (Bool)
  | 0, _, _, _, _ => none
  | k + 1, x0, x1, x5, x6 => if x6 < (x0.length : Int) then (if 0 ≤ x6 then ((word_Good.f (rdOf ByteArray.empty x0 x6)).bind fun t389 => (if t389 = true then (if (rdOf ByteArray.empty x0 x6).toList = x1.toList then (cubitlaw6_WordBack.l0 k x0 x1 (wrap64 (x5 + 1)) (wrap64 (x6 + 1))) else (cubitlaw6_WordBack.l0 k x0 x1 x5 (wrap64 (x6 + 1)))) else (some true))) else (none)) else ((word_Join.f x0).bind fun t391 => ((word_Split.f k t391).bind fun bt392 => ((word_Cut.f k x0 x1).bind fun t396 => (cubitlaw6_WordBack.l1 k x0 x5 bt392.1 bt392.2 t396 0 0))))
def cubitlaw6_WordBack.l1 : Nat → List ByteArray → Int → List ByteArray → Int → List (List ByteArray) → Int → Int → Option (Bool)
  | 0, _, _, _, _, _, _, _ => none
  | k + 1, x0, x5, x7, x8, x9, x10, x11 => if x11 < (x9.length : Int) then (if 0 ≤ x11 then (cubitlaw6_WordBack.l1 k x0 x5 x7 x8 x9 (wrap64 (x10 + ((rd_L2 x9 x11).length : Int))) (wrap64 (x11 + 1))) else (none)) else ((word_Join.f x0).bind fun t400 => (if ((x8 == 11) == (decide ((t400.size : Int) > 256))) = true then (if x8 = 0 then ((cubitlaw6_texts.f k x7 x0).bind fun t401 => (if t401 = true then (if (x9.length : Int) = (wrap64 (x5 + 1)) then (if x10 = (wrap64 ((x0.length : Int) - x5)) then (some true) else (some false)) else (some false)) else (some false))) else (if (x9.length : Int) = (wrap64 (x5 + 1)) then (if x10 = (wrap64 ((x0.length : Int) - x5)) then (some true) else (some false)) else (some false))) else (some false)))
end
def cubitlaw6_WordBack.f (k : Nat) (l0 : List ByteArray) (a1 : ByteArray) : Option (Bool) := (cubitlaw6_awake.f k).bind fun t387 => (if t387 = true then (if (l0.length : Int) < 1 then (cubitlaw6_WordBack.j0 k l0 a1 true) else (cubitlaw6_WordBack.j0 k l0 a1 (decide ((l0.length : Int) > 12)))) else (some false))
theorem cubitlaw6_WordBack.mono_l : ∀ k, (∀ y0 y1 y2, LeO (cubitlaw6_WordBack.j0 k y0 y1 y2) (cubitlaw6_WordBack.j0 (k + 1) y0 y1 y2)) ∧ (∀ y0 y1 y2 y3, LeO (cubitlaw6_WordBack.l0 k y0 y1 y2 y3) (cubitlaw6_WordBack.l0 (k + 1) y0 y1 y2 y3)) ∧ (∀ y0 y1 y2 y3 y4 y5 y6, LeO (cubitlaw6_WordBack.l1 k y0 y1 y2 y3 y4 y5 y6) (cubitlaw6_WordBack.l1 (k + 1) y0 y1 y2 y3 y4 y5 y6))
  | 0 => ⟨fun _ _ _ r h => by simp [cubitlaw6_WordBack.j0] at h, fun _ _ _ _ r h => by simp [cubitlaw6_WordBack.l0] at h, fun _ _ _ _ _ _ _ r h => by simp [cubitlaw6_WordBack.l1] at h⟩
  | k + 1 => by
    obtain ⟨ih0, ih1, ih2⟩ := cubitlaw6_WordBack.mono_l k
    refine ⟨?_, ?_, ?_⟩
    · intro y0 y1 y2
      unfold cubitlaw6_WordBack.j0
      repeat' first
      | (with_reducible exact ih0 _ _ _)
      | (with_reducible exact ih1 _ _ _ _)
      | (with_reducible exact ih2 _ _ _ _ _ _ _)
      | (with_reducible exact cubitlaw6_awake.mono _)
      | (with_reducible exact cubitlaw6_texts.mono _ _ _)
      | (with_reducible exact word_Cut.mono _ _ _)
      | (with_reducible exact word_Split.mono _ _)
      | (with_reducible exact LeO.refl _)
      | (with_reducible exact LeO.none _)
      | (with_reducible refine LeO.ite ?_ ?_)
      | (with_reducible refine LeO.bind ?_ (fun _ => ?_))
      | exact ih0 _ _ _
      | exact ih1 _ _ _ _
      | exact ih2 _ _ _ _ _ _ _
      | exact cubitlaw6_awake.mono _
      | exact cubitlaw6_texts.mono _ _ _
      | exact word_Cut.mono _ _ _
      | exact word_Split.mono _ _
      | exact LeO.none _
      | refine LeO.ite ?_ ?_
      | refine LeO.bind ?_ (fun _ => ?_)
    · intro y0 y1 y2 y3
      unfold cubitlaw6_WordBack.l0
      repeat' first
      | (with_reducible exact ih0 _ _ _)
      | (with_reducible exact ih1 _ _ _ _)
      | (with_reducible exact ih2 _ _ _ _ _ _ _)
      | (with_reducible exact cubitlaw6_awake.mono _)
      | (with_reducible exact cubitlaw6_texts.mono _ _ _)
      | (with_reducible exact word_Cut.mono _ _ _)
      | (with_reducible exact word_Split.mono _ _)
      | (with_reducible exact LeO.refl _)
      | (with_reducible exact LeO.none _)
      | (with_reducible refine LeO.ite ?_ ?_)
      | (with_reducible refine LeO.bind ?_ (fun _ => ?_))
      | exact ih0 _ _ _
      | exact ih1 _ _ _ _
      | exact ih2 _ _ _ _ _ _ _
      | exact cubitlaw6_awake.mono _
      | exact cubitlaw6_texts.mono _ _ _
      | exact word_Cut.mono _ _ _
      | exact word_Split.mono _ _
      | exact LeO.none _
      | refine LeO.ite ?_ ?_
      | refine LeO.bind ?_ (fun _ => ?_)
    · intro y0 y1 y2 y3 y4 y5 y6
      unfold cubitlaw6_WordBack.l1
      repeat' first
      | (with_reducible exact ih0 _ _ _)
      | (with_reducible exact ih1 _ _ _ _)
      | (with_reducible exact ih2 _ _ _ _ _ _ _)
      | (with_reducible exact cubitlaw6_awake.mono _)
      | (with_reducible exact cubitlaw6_texts.mono _ _ _)
      | (with_reducible exact word_Cut.mono _ _ _)
      | (with_reducible exact word_Split.mono _ _)
      | (with_reducible exact LeO.refl _)
      | (with_reducible exact LeO.none _)
      | (with_reducible refine LeO.ite ?_ ?_)
      | (with_reducible refine LeO.bind ?_ (fun _ => ?_))
      | exact ih0 _ _ _
      | exact ih1 _ _ _ _
      | exact ih2 _ _ _ _ _ _ _
      | exact cubitlaw6_awake.mono _
      | exact cubitlaw6_texts.mono _ _ _
      | exact word_Cut.mono _ _ _
      | exact word_Split.mono _ _
      | exact LeO.none _
      | refine LeO.ite ?_ ?_
      | refine LeO.bind ?_ (fun _ => ?_)
theorem cubitlaw6_WordBack.mono : ∀ a0 a1 k, LeO (cubitlaw6_WordBack.f k a0 a1) (cubitlaw6_WordBack.f (k + 1) a0 a1) := by
  intro a0 a1 k
  obtain ⟨ih0, ih1, ih2⟩ := cubitlaw6_WordBack.mono_l k
  unfold cubitlaw6_WordBack.f
  repeat' first
      | (with_reducible exact ih0 _ _ _)
      | (with_reducible exact ih1 _ _ _ _)
      | (with_reducible exact ih2 _ _ _ _ _ _ _)
      | (with_reducible exact cubitlaw6_awake.mono _)
      | (with_reducible exact cubitlaw6_texts.mono _ _ _)
      | (with_reducible exact word_Cut.mono _ _ _)
      | (with_reducible exact word_Split.mono _ _)
      | (with_reducible exact LeO.refl _)
      | (with_reducible exact LeO.none _)
      | (with_reducible refine LeO.ite ?_ ?_)
      | (with_reducible refine LeO.bind ?_ (fun _ => ?_))
      | exact ih0 _ _ _
      | exact ih1 _ _ _ _
      | exact ih2 _ _ _ _ _ _ _
      | exact cubitlaw6_awake.mono _
      | exact cubitlaw6_texts.mono _ _ _
      | exact word_Cut.mono _ _ _
      | exact word_Split.mono _ _
      | exact LeO.none _
      | refine LeO.ite ?_ ?_
      | refine LeO.bind ?_ (fun _ => ?_)
set_option maxHeartbeats 8000000 in
set_option maxRecDepth 100000 in
theorem cubitlaw6_WordBack.calls (k : Nat) (A0 : Option Addr) (c0 : Nat) (l0 : List ByteArray) (a1 : ByteArray) (r : Bool) (w : World) (hr0 : Kd.C Kd.string w A0 l0.length l0) (hc0 : l0.length ≤ c0) (h : cubitlaw6_WordBack.f k l0 a1 = some r) (hT : r = true) (hG : Glob w) :
    Calls Tryd.prog 9 #[.slice A0 l0.length c0, .string a1] w fun e w' => e = .returned (.bool r) ∧ Below w.heap.size w w' := by
  have HR0 := Aside0.mk hr0
  have HC0 := Aside0.mk hc0
  clear hr0 hc0
  have HB := Aside0.mk (Below.refl w.heap.size w)
  subst hT
  have H : ((cubitlaw6_awake.f k).bind fun t387 => (if t387 = true then (if (l0.length : Int) < 1 then (cubitlaw6_WordBack.j0 k l0 a1 true) else (cubitlaw6_WordBack.j0 k l0 a1 (decide ((l0.length : Int) > 12)))) else (some false))) = some true := h
  clear h
  have HG := Aside0.mk hG
  clear hG
  replace H := Option.bind_eq_some_iff.mp H
  obtain ⟨t387, A30, H⟩ := H
  replace H : (if t387 = true then (if (l0.length : Int) < 1 then (cubitlaw6_WordBack.j0 k l0 a1 true) else (cubitlaw6_WordBack.j0 k l0 a1 (decide ((l0.length : Int) > 12)))) else (some false)) = some true := H
  have A3 := Aside0.mk A30
  clear A30
  by_cases c4 : t387 = true
  · subst c4
    have H1 : (if (l0.length : Int) < 1 then (cubitlaw6_WordBack.j0 k l0 a1 true) else (cubitlaw6_WordBack.j0 k l0 a1 (decide ((l0.length : Int) > 12)))) = some true := by (rw [if_pos rfl] at H); first | done | exact H
    clear H
    have H := H1
    clear H1
    have HC5 := Aside0.mk H
    clear H
    go_enter Tryd.func9, Tryd.ntmps9
    go_upto_region 3 with (first | ((with_reducible refine gate_callee (f := 28) rfl ?_); refine goesL_ (some 12) rfl rfl Tryd.func28 (by kernel_rfl) rfl #[] rfl (by (try simp only [List.map_toArray, List.map_cons, List.map_nil]); first | done | rfl | (simp only [List.length_drop, List.length_take]; rfl)) ?_; (with_reducible refine (cubitlaw6_awake.calls k  true _ A3.out rfl ?side1).mono ?_); (case side1 => exact Glob.below HG.out (by repeat (first | (with_reducible first | exact HB.out | apply below_alloc | apply pw_below_drewN | apply below_drew1) | exact HB.out))); rintro e w6 ⟨rfl, hb⟩; refine ⟨_, rfl, ?_⟩; have n0_ := Aside0.mk (below_step (by repeat (first | (with_reducible first | exact HB.out | apply below_alloc | apply pw_below_drewN | apply below_drew1) | exact HB.out)) hb); clear HB; have HB := n0_; clear n0_; (try clear hb); (try clear hb2); (try clear hk); (try clear hi)))
    (try simp only [Act.put, List.setIfInBounds_toArray, List.set_cons_zero, List.set_cons_succ])
    go_cut [21] (fun v21 wc => ∃ (kq : Nat) (x21_4 : Bool), v21 = .bool x21_4 ∧ Aside0 (cubitlaw6_WordBack.j0 kq l0 a1 x21_4 = some true) ∧ Aside0 (kq ≤ k) ∧ Aside0 (Below w.heap.size w wc))
    case first =>
      have H := HC5.out
      clear HC5
      by_cases c7 : (l0.length : Int) < 1
      · rw [if_pos c7] at H
        have c7b0 : decide ((l0.length : Int) < 1) = true := decide_eq_true c7
        have c7b1 : decide (l0.length < 1) = true := decide_eq_true (by omega)
        clear c7
        (first | rw [c7b0] | (simp only [i64_w, i32_w]; rw [c7b0]) | skip)
        have H' := Aside0.mk H
        clear H
        go_wp2
        go_meet
        case rel => exact ⟨_, (true), (by first | rfl | (simp; done) | (simp only [i64_w, i32_w]; done) | (simp [*]; done)), H', ⟨by first | omega | exact Nat.le_refl _⟩, ⟨by repeat (first | (with_reducible first | exact HB.out | apply below_alloc | apply pw_below_drewN | apply below_drew1) | exact HB.out)⟩⟩
      · rw [if_neg c7] at H
        have c7b0 : decide ((l0.length : Int) < 1) = false := decide_eq_false c7
        have c7b1 : decide (l0.length < 1) = false := decide_eq_false (by omega)
        clear c7
        (first | rw [c7b0] | (simp only [i64_w, i32_w]; rw [c7b0]) | skip)
        have H' := Aside0.mk H
        clear H
        go_wp2
        go_meet
        case rel => exact ⟨_, (decide ((l0.length : Int) > 12)), (by first | rfl | (simp; done) | (simp only [i64_w, i32_w]; done) | (simp [*]; done)), H', ⟨by first | omega | exact Nat.le_refl _⟩, ⟨by repeat (first | (with_reducible first | exact HB.out | apply below_alloc | apply pw_below_drewN | apply below_drew1) | exact HB.out)⟩⟩
    case rest =>
      clear HC5
      try clear c2
      try clear p2
      try clear c4
      try clear c7
      try clear c7b0
      try clear c7b1
      obtain ⟨kq, x21_4, rfl, HA, HJ4, HB⟩ := hcut
      cases kq with
      | zero => exact absurd HA.out (by simp [cubitlaw6_WordBack.j0])
      | succ kj4 =>
        have H := HA.out
        clear HA
        simp only [cubitlaw6_WordBack.j0] at H
        by_cases c8 : x21_4 = true
        · subst c8
          have H1 : (some true) = some true := by (rw [if_pos rfl] at H); first | done | exact H
          clear H
          have H := H1
          clear H1
          clear H
          go_wp2
          go_ret
          exact ⟨by first | rfl | (simp [errW_none, errW_some] <;> rfl) | (simp [*, errW_none, errW_some] <;> rfl), by repeat (first | (with_reducible first | exact HB.out | apply below_alloc | apply pw_below_drewN | apply below_drew1) | exact HB.out)⟩
        · replace c8 := Bool.eq_false_iff.mpr c8
          subst c8
          have H1 : (cubitlaw6_WordBack.l0 kj4 l0 a1 0 0) = some true := by (rw [if_neg (show ¬ (false = true) by decide)] at H); first | done | exact H
          clear H
          have H := H1
          clear H1
          have H' := Aside0.mk H
          clear H
          go_wp2
          go_loopg [5, 6] kj4 (fun kq v5 v6 w' => ∃ (x5_2 : Int) (x6_2 : Int), v5 = .int .i64 x5_2 ∧ v6 = .int .i64 x6_2 ∧ Aside0 (cubitlaw6_WordBack.l0 kq l0 a1 x5_2 x6_2 = some true) ∧ Aside0 (kq ≤ kj4) ∧ Aside0 (Below w.heap.size w w'))
          case atStart => exact ⟨(0), (0), (by first | rfl | (simp; done) | (simp only [i64_w, i32_w]; done) | (simp [*]; done)), (by first | rfl | (simp; done) | (simp only [i64_w, i32_w]; done) | (simp [*]; done)), H', ⟨Nat.le_refl _⟩, ⟨by repeat (first | (with_reducible first | exact HB.out | apply below_alloc | apply pw_below_drewN | apply below_drew1) | exact HB.out)⟩⟩
          case round =>
            clear H'
            try clear c2
            try clear p2
            try clear c4
            try clear c7
            try clear c7b0
            try clear c7b1
            try clear c8
            try clear p2
            obtain ⟨x5_2, x6_2, rfl, rfl, HA, HK2, HB⟩ := hrel
            cases gk with
            | zero => exact absurd HA.out (by simp [cubitlaw6_WordBack.l0])
            | succ k2 =>
              have H := HA.out
              clear HA
              simp only [cubitlaw6_WordBack.l0] at H
              by_cases c9 : x6_2 < (l0.length : Int)
              · rw [if_pos c9] at H
                have c9b0 : decide (x6_2 < (l0.length : Int)) = true := decide_eq_true c9
                clear c9
                by_cases c10 : 0 ≤ x6_2
                · rw [if_pos c10] at H
                  have c10b0 : decide (0 ≤ x6_2) = true := decide_eq_true c10
                  clear c10
                  replace H := Option.bind_eq_some_iff.mp H
                  obtain ⟨t389, A110, H⟩ := H
                  replace H : (if t389 = true then (if (rdOf ByteArray.empty l0 x6_2).toList = a1.toList then (cubitlaw6_WordBack.l0 k2 l0 a1 (wrap64 (x5_2 + 1)) (wrap64 (x6_2 + 1))) else (cubitlaw6_WordBack.l0 k2 l0 a1 x5_2 (wrap64 (x6_2 + 1)))) else (some true)) = some true := H
                  have A11 := Aside0.mk A110
                  clear A110
                  by_cases c12 : t389 = true
                  · subst c12
                    have H1 : (if (rdOf ByteArray.empty l0 x6_2).toList = a1.toList then (cubitlaw6_WordBack.l0 k2 l0 a1 (wrap64 (x5_2 + 1)) (wrap64 (x6_2 + 1))) else (cubitlaw6_WordBack.l0 k2 l0 a1 x5_2 (wrap64 (x6_2 + 1)))) = some true := by (rw [if_pos rfl] at H); first | done | exact H
                    clear H
                    have H := H1
                    clear H1
                    by_cases c13 : (rdOf ByteArray.empty l0 x6_2).toList = a1.toList
                    · rw [if_pos c13] at H
                      have c13b0 : ((rdOf ByteArray.empty l0 x6_2).toList == a1.toList) = true := beq_iff_eq.mpr c13
                      have c13b1 : ((rdOf ByteArray.empty l0 x6_2).toList != a1.toList) = false := bne_eq_false_iff_eq.mpr c13
                      clear c13
                      have H' := Aside0.mk H
                      clear H
                      have p388 : 0 ≤ (x6_2 : Int) := of_decide_eq_true (by first | (with_reducible assumption) | assumption)
                      have q388 : x6_2 < (l0.length : Int) := of_decide_eq_true (by first | (with_reducible assumption) | assumption)
                      obtain ⟨ad388, e388, hx388_0⟩ := Kd.at_string HR0.out x6_2 p388 q388
                      cases e388
                      replace hx388_0 := (HB.out.cell (World.block_lt_of_cell? w _ hx388_0)).trans hx388_0
                      replace p388 := eq_true p388
                      replace q388 := eq_true q388
                      go_wp2_with (first | ((with_reducible refine gate_callee (f := 33) rfl ?_); refine goesL_ (some 32) rfl rfl Tryd.func33 (by kernel_rfl) rfl #[.string (rdOf ByteArray.empty l0 x6_2)] rfl (by (try simp only [List.map_toArray, List.map_cons, List.map_nil]); first | done | rfl | (simp only [List.length_drop, List.length_take]; rfl)) ?_; (with_reducible refine (word_Good.calls (rdOf ByteArray.empty l0 x6_2) true _ A11.out ?side1).mono ?_); (case side1 => exact Glob.below HG.out (by repeat (first | (with_reducible first | exact HB.out | apply below_alloc | apply pw_below_drewN | apply below_drew1) | exact HB.out))); rintro e w14 ⟨rfl, hb⟩; refine ⟨_, rfl, ?_⟩; have n0_ := Aside0.mk (below_step (by repeat (first | (with_reducible first | exact HB.out | apply below_alloc | apply pw_below_drewN | apply below_drew1) | exact HB.out)) hb); clear HB; have HB := n0_; clear n0_; (try clear hb); (try clear hb2); (try clear hk); (try clear hi); have p390 : 0 ≤ (x6_2 : Int) := of_decide_eq_true (by first | (with_reducible assumption) | assumption); have q390 : x6_2 < (l0.length : Int) := of_decide_eq_true (by first | (with_reducible assumption) | assumption); obtain ⟨ad390, e390, hx390_0⟩ := Kd.at_string HR0.out x6_2 p390 q390; obtain rfl : ad388 = ad390 := (by injection e390); replace hx390_0 := (HB.out.cell (World.block_lt_of_cell? w _ hx390_0)).trans hx390_0; replace p390 := eq_true p390; replace q390 := eq_true q390))
                      go_roundg k2
                      case measure => have := HJ4.out; have := HK2.out; omega
                      case rel => exact ⟨(wrap64 (x5_2 + 1)), (wrap64 (x6_2 + 1)), (by first | rfl | (simp; done) | (simp only [i64_w, i32_w]; done) | (simp [*]; done)), (by first | rfl | (simp; done) | (simp only [i64_w, i32_w]; done) | (simp [*]; done)), H', ⟨by have := HJ4.out; have := HK2.out; omega⟩, ⟨by repeat (first | (with_reducible first | exact HB.out | apply below_alloc | apply pw_below_drewN | apply below_drew1) | exact HB.out)⟩⟩
                    · rw [if_neg c13] at H
                      have c13b0 : ((rdOf ByteArray.empty l0 x6_2).toList == a1.toList) = false := beq_eq_false_iff_ne.mpr c13
                      have c13b1 : ((rdOf ByteArray.empty l0 x6_2).toList != a1.toList) = true := bne_iff_ne.mpr c13
                      have H' := Aside0.mk H
                      clear H
                      have p388 : 0 ≤ (x6_2 : Int) := of_decide_eq_true (by first | (with_reducible assumption) | assumption)
                      have q388 : x6_2 < (l0.length : Int) := of_decide_eq_true (by first | (with_reducible assumption) | assumption)
                      obtain ⟨ad388, e388, hx388_0⟩ := Kd.at_string HR0.out x6_2 p388 q388
                      cases e388
                      replace hx388_0 := (HB.out.cell (World.block_lt_of_cell? w _ hx388_0)).trans hx388_0
                      replace p388 := eq_true p388
                      replace q388 := eq_true q388
                      go_wp2_with (first | ((with_reducible refine gate_callee (f := 33) rfl ?_); refine goesL_ (some 32) rfl rfl Tryd.func33 (by kernel_rfl) rfl #[.string (rdOf ByteArray.empty l0 x6_2)] rfl (by (try simp only [List.map_toArray, List.map_cons, List.map_nil]); first | done | rfl | (simp only [List.length_drop, List.length_take]; rfl)) ?_; (with_reducible refine (word_Good.calls (rdOf ByteArray.empty l0 x6_2) true _ A11.out ?side1).mono ?_); (case side1 => exact Glob.below HG.out (by repeat (first | (with_reducible first | exact HB.out | apply below_alloc | apply pw_below_drewN | apply below_drew1) | exact HB.out))); rintro e w15 ⟨rfl, hb⟩; refine ⟨_, rfl, ?_⟩; have n0_ := Aside0.mk (below_step (by repeat (first | (with_reducible first | exact HB.out | apply below_alloc | apply pw_below_drewN | apply below_drew1) | exact HB.out)) hb); clear HB; have HB := n0_; clear n0_; (try clear hb); (try clear hb2); (try clear hk); (try clear hi); have p390 : 0 ≤ (x6_2 : Int) := of_decide_eq_true (by first | (with_reducible assumption) | assumption); have q390 : x6_2 < (l0.length : Int) := of_decide_eq_true (by first | (with_reducible assumption) | assumption); obtain ⟨ad390, e390, hx390_0⟩ := Kd.at_string HR0.out x6_2 p390 q390; obtain rfl : ad388 = ad390 := (by injection e390); replace hx390_0 := (HB.out.cell (World.block_lt_of_cell? w _ hx390_0)).trans hx390_0; replace p390 := eq_true p390; replace q390 := eq_true q390))
                      go_roundg k2
                      case measure => have := HJ4.out; have := HK2.out; omega
                      case rel => exact ⟨(x5_2), (wrap64 (x6_2 + 1)), (by first | rfl | (simp; done) | (simp only [i64_w, i32_w]; done) | (simp [*]; done)), (by first | rfl | (simp; done) | (simp only [i64_w, i32_w]; done) | (simp [*]; done)), H', ⟨by have := HJ4.out; have := HK2.out; omega⟩, ⟨by repeat (first | (with_reducible first | exact HB.out | apply below_alloc | apply pw_below_drewN | apply below_drew1) | exact HB.out)⟩⟩
                  · replace c12 := Bool.eq_false_iff.mpr c12
                    subst c12
                    have H1 : (some true) = some true := by (rw [if_neg (show ¬ (false = true) by decide)] at H); first | done | exact H
                    clear H
                    have H := H1
                    clear H1
                    clear H
                    have p388 : 0 ≤ (x6_2 : Int) := of_decide_eq_true (by first | (with_reducible assumption) | assumption)
                    have q388 : x6_2 < (l0.length : Int) := of_decide_eq_true (by first | (with_reducible assumption) | assumption)
                    obtain ⟨ad388, e388, hx388_0⟩ := Kd.at_string HR0.out x6_2 p388 q388
                    cases e388
                    replace hx388_0 := (HB.out.cell (World.block_lt_of_cell? w _ hx388_0)).trans hx388_0
                    replace p388 := eq_true p388
                    replace q388 := eq_true q388
                    go_wp2_with (first | ((with_reducible refine gate_callee (f := 33) rfl ?_); refine goesL_ (some 32) rfl rfl Tryd.func33 (by kernel_rfl) rfl #[.string (rdOf ByteArray.empty l0 x6_2)] rfl (by (try simp only [List.map_toArray, List.map_cons, List.map_nil]); first | done | rfl | (simp only [List.length_drop, List.length_take]; rfl)) ?_; (with_reducible refine (word_Good.calls (rdOf ByteArray.empty l0 x6_2) false _ A11.out ?side1).mono ?_); (case side1 => exact Glob.below HG.out (by repeat (first | (with_reducible first | exact HB.out | apply below_alloc | apply pw_below_drewN | apply below_drew1) | exact HB.out))); rintro e w16 ⟨rfl, hb⟩; refine ⟨_, rfl, ?_⟩; have n0_ := Aside0.mk (below_step (by repeat (first | (with_reducible first | exact HB.out | apply below_alloc | apply pw_below_drewN | apply below_drew1) | exact HB.out)) hb); clear HB; have HB := n0_; clear n0_; (try clear hb); (try clear hb2); (try clear hk); (try clear hi)))
                    go_ret
                    exact ⟨by first | rfl | (simp [errW_none, errW_some] <;> rfl) | (simp [*, errW_none, errW_some] <;> rfl), by repeat (first | (with_reducible first | exact HB.out | apply below_alloc | apply pw_below_drewN | apply below_drew1) | exact HB.out)⟩
                · rw [if_neg c10] at H
                  exact absurd H (by simp)
              · rw [if_neg c9] at H
                have c9b0 : decide (x6_2 < (l0.length : Int)) = false := decide_eq_false c9
                clear c9
                replace H := Option.bind_eq_some_iff.mp H
                obtain ⟨t391, A170, H⟩ := H
                replace H : ((word_Split.f k2 t391).bind fun bt392 => ((word_Cut.f k2 l0 a1).bind fun t396 => (cubitlaw6_WordBack.l1 k2 l0 x5_2 bt392.1 bt392.2 t396 0 0))) = some true := H
                have A17 := Aside0.mk A170
                clear A170
                replace H := Option.bind_eq_some_iff.mp H
                obtain ⟨⟨t392, t393⟩, A180, H⟩ := H
                replace H : ((word_Cut.f k2 l0 a1).bind fun t396 => (cubitlaw6_WordBack.l1 k2 l0 x5_2 t392 t393 t396 0 0)) = some true := H
                have A18 := Aside0.mk A180
                clear A180
                replace H := Option.bind_eq_some_iff.mp H
                obtain ⟨t396, A190, H⟩ := H
                replace H : (cubitlaw6_WordBack.l1 k2 l0 x5_2 t392 t393 t396 0 0) = some true := H
                have A19 := Aside0.mk A190
                clear A190
                have H' := Aside0.mk H
                clear H
                go_wp2_with (first | ((with_reducible refine gate_callee (f := 34) rfl ?_); refine goesL_ (some 44) rfl rfl Tryd.func34 (by kernel_rfl) rfl #[.slice A0 l0.length c0] rfl (by (try simp only [List.map_toArray, List.map_cons, List.map_nil]); first | done | rfl | (simp only [List.length_drop, List.length_take]; rfl)) ?_; (with_reducible refine (word_Join.calls _ _ l0 t391 _ ?side1 ?side2 A17.out ?side3).mono ?_); (case side1 => repeat (first | exact (Kd.C_below HR0.out HB.out) | (with_reducible refine Kd.C_alloc ?_ _) | (with_reducible refine Kd.C_drewN ?_ _) | (with_reducible refine Kd.C_drew ?_))); (case side2 => exact HC0.out); (case side3 => exact Glob.below HG.out (by repeat (first | (with_reducible first | exact HB.out | apply below_alloc | apply pw_below_drewN | apply below_drew1) | exact HB.out))); rintro e w20 ⟨rfl, hb⟩; refine ⟨_, rfl, ?_⟩; have n0_ := Aside0.mk (below_step (by repeat (first | (with_reducible first | exact HB.out | apply below_alloc | apply pw_below_drewN | apply below_drew1) | exact HB.out)) hb); clear HB; have HB := n0_; clear n0_; (try clear hb); (try clear hb2); (try clear hk); (try clear hi)) | ((with_reducible refine gate_callee (f := 29) rfl ?_); refine goesL_ (some 45) rfl rfl Tryd.func29 (by kernel_rfl) rfl #[.string t391] rfl (by (try simp only [List.map_toArray, List.map_cons, List.map_nil]); first | done | rfl | (simp only [List.length_drop, List.length_take]; rfl)) ?_; (with_reducible refine (word_Split.calls k2 t391 t392 t393 _ A18.out ?side1).mono ?_); (case side1 => exact Glob.below HG.out (by repeat (first | (with_reducible first | exact HB.out | apply below_alloc | apply pw_below_drewN | apply below_drew1) | exact HB.out))); rintro e w21 ⟨v394, rfl, ho0, hb⟩; refine ⟨_, rfl, ?_⟩; have n0_ := Aside0.mk (Kd.R_lower ho0 (below_size (by repeat (first | (with_reducible first | exact HB.out | apply below_alloc | apply pw_below_drewN | apply below_drew1) | exact HB.out)))); have n1_ := Aside0.mk (below_step (by repeat (first | (with_reducible first | exact HB.out | apply below_alloc | apply pw_below_drewN | apply below_drew1) | exact HB.out)) hb); clear HB; have HO395 := n0_; have HB := n1_; clear n0_ n1_; (try clear hb); (try clear hb2); (try clear hk); (try clear hi); (try clear ho0)) | ((with_reducible refine gate_callee (f := 30) rfl ?_); refine goesL_ (some 50) rfl rfl Tryd.func30 (by kernel_rfl) rfl #[.slice A0 l0.length c0, .string a1] rfl (by (try simp only [List.map_toArray, List.map_cons, List.map_nil]); first | done | rfl | (simp only [List.length_drop, List.length_take]; rfl)) ?_; (with_reducible refine (word_Cut.calls k2 _ _ l0 a1 t396 _ ?side1 ?side2 A19.out ?side3).mono ?_); (case side1 => repeat (first | exact (Kd.C_below HR0.out HB.out) | (with_reducible refine Kd.C_alloc ?_ _) | (with_reducible refine Kd.C_drewN ?_ _) | (with_reducible refine Kd.C_drew ?_))); (case side2 => exact HC0.out); (case side3 => exact Glob.below HG.out (by repeat (first | (with_reducible first | exact HB.out | apply below_alloc | apply pw_below_drewN | apply below_drew1) | exact HB.out))); rintro e w22 ⟨v397, rfl, ho0, hb⟩; refine ⟨_, rfl, ?_⟩; have n0_ := Aside0.mk (Kd.R_below (by (with_reducible repeat (first | apply Kd.R_alloc | apply Kd.R_drewN | apply Kd.R_drew)); exact HO395.out) hb); have n1_ := Aside0.mk (Kd.S_lower (Kd.S_new' ho0 (Kd.R_lt (by (with_reducible repeat (first | apply Kd.R_alloc | apply Kd.R_drewN | apply Kd.R_drew)); exact HO395.out))) (below_size (by repeat (first | (with_reducible first | exact HB.out | apply below_alloc | apply pw_below_drewN | apply below_drew1) | exact HB.out)))); have n2_ := Aside0.mk (below_step (by repeat (first | (with_reducible first | exact HB.out | apply below_alloc | apply pw_below_drewN | apply below_drew1) | exact HB.out)) hb); clear HO395; clear HB; have HO395 := n0_; have HO398 := n1_; have HB := n2_; clear n0_ n1_ n2_; (try clear hb); (try clear hb2); (try clear hk); (try clear hi); (try clear ho0)))
                go_loopg [10, 11] k2 (fun kq v10 v11 w' => ∃ (x10_3 : Int) (x11_3 : Int), v10 = .int .i64 x10_3 ∧ v11 = .int .i64 x11_3 ∧ Aside0 (cubitlaw6_WordBack.l1 kq l0 x5_2 t392 t393 t396 x10_3 x11_3 = some true) ∧ Aside0 (kq ≤ k2) ∧ Aside0 (Kd.R Kd.string 9 w' w.heap.size (fun _ => True) v394 t392) ∧ Aside0 (Kd.S (Kd.slice 9 Kd.string) 29 w' w.heap.size (fun k_ => some k_ ≠ (v394 : Value).ownBlock) v397 t396) ∧ Aside0 (Below w.heap.size w w'))
                case atStart => exact ⟨(0), (0), (by first | rfl | (simp; done) | (simp only [i64_w, i32_w]; done) | (simp [*]; done)), (by first | rfl | (simp; done) | (simp only [i64_w, i32_w]; done) | (simp [*]; done)), H', ⟨Nat.le_refl _⟩, ⟨by (with_reducible repeat (first | apply Kd.R_alloc | apply Kd.R_drewN | apply Kd.R_drew)); exact HO395.out⟩, ⟨by (with_reducible repeat (first | apply Kd.S_alloc | apply Kd.S_drewN | apply Kd.S_drew)); exact Kd.S_mono HO398.out (fun _ hk => hk.2)⟩, ⟨by repeat (first | (with_reducible first | exact HB.out | apply below_alloc | apply pw_below_drewN | apply below_drew1) | exact HB.out)⟩⟩
                case round =>
                  clear H'
                  try clear c1
                  try clear c2
                  try clear p2
                  try clear c3
                  try clear p3
                  try clear q3
                  try clear hx3
                  try clear c4
                  try clear p6
                  try clear c7
                  try clear c7b0
                  try clear c7b1
                  try clear c8
                  try clear c9
                  try clear c9b0
                  try clear c10
                  try clear c10b0
                  try clear c12
                  try clear c13
                  try clear c13b0
                  try clear c13b1
                  try clear hx388_0
                  try clear hx390_0
                  try clear p2
                  try clear p388
                  try clear p390
                  try clear q388
                  try clear q390
                  obtain ⟨x10_3, x11_3, rfl, rfl, HA, HK3, HO_7, HO_9, HB⟩ := hrel
                  cases gk with
                  | zero => exact absurd HA.out (by simp [cubitlaw6_WordBack.l1])
                  | succ k3 =>
                    have H := HA.out
                    clear HA
                    simp only [cubitlaw6_WordBack.l1] at H
                    by_cases c23 : x11_3 < (t396.length : Int)
                    · rw [if_pos c23] at H
                      have c23b0 : decide (x11_3 < (t396.length : Int)) = true := decide_eq_true c23
                      clear c23
                      by_cases c24 : 0 ≤ x11_3
                      · rw [if_pos c24] at H
                        have c24b0 : decide (0 ≤ x11_3) = true := decide_eq_true c24
                        clear c24
                        have H' := Aside0.mk H
                        clear H
                        obtain ⟨Ao25, co25, eo25⟩ := Kd.S_slice HO_9.out
                        subst eo25
                        have p399 : 0 ≤ (x11_3 : Int) := of_decide_eq_true (by first | (with_reducible assumption) | assumption)
                        have q399 : x11_3 < (t396.length : Int) := of_decide_eq_true (by first | (with_reducible assumption) | assumption)
                        obtain ⟨ad399, A399_0, c399_0, e399, hx399_0, hl399_0, hi399_0⟩ := at_L2 (Kd.S_reads' HO_9.out).2.2 x11_3 p399 q399
                        cases e399
                        obtain ⟨ce399, hce399, hMe399, hcc399⟩ := Kd.S_get HO_9.out [] x11_3 p399 (by first | exact q399 | exact of_decide_eq_true (by first | (with_reducible assumption) | assumption) | (have e_ := (Kd.S_reads' HO_9.out).1; omega))
                        obtain ⟨ve399_0, rfl, ge399_0⟩ := hMe399
                        have hv399_0 := hcc399 0 _ rfl
                        rw [Nat.add_zero, show ((Kd.slice 9 Kd.string)).sz = 1 from rfl, Nat.mul_one] at hv399_0
                        replace hv399_0 := Option.some.inj (hv399_0.symm.trans hx399_0)
                        rw [hv399_0] at ge399_0
                        have HL399_0 := Aside0.mk (show Kd.R Kd.string 9 _ _ _ _ (rd_L2 t396 x11_3) from ge399_0)
                        clear hv399_0 ge399_0
                        clear hcc399 hce399
                        have HR399_0 := Aside0.mk hi399_0
                        have HC399_0 := Aside0.mk hl399_0
                        clear hi399_0 hl399_0
                        replace p399 := eq_true p399
                        replace q399 := eq_true q399
                        go_wp2
                        go_roundg k3
                        case measure => have := HJ4.out; have := HK2.out; have := HK3.out; omega
                        case rel => exact ⟨(wrap64 (x10_3 + ((rd_L2 t396 x11_3).length : Int))), (wrap64 (x11_3 + 1)), (by first | rfl | (simp; done) | (simp only [i64_w, i32_w]; done) | (simp [*]; done)), (by first | rfl | (simp; done) | (simp only [i64_w, i32_w]; done) | (simp [*]; done)), H', ⟨by have := HJ4.out; have := HK2.out; have := HK3.out; omega⟩, ⟨by (with_reducible repeat (first | apply Kd.R_alloc | apply Kd.R_drewN | apply Kd.R_drew)); exact HO_7.out⟩, ⟨by (with_reducible repeat (first | apply Kd.S_alloc | apply Kd.S_drewN | apply Kd.S_drew)); exact HO_9.out⟩, ⟨by repeat (first | (with_reducible first | exact HB.out | apply below_alloc | apply pw_below_drewN | apply below_drew1) | exact HB.out)⟩⟩
                      · rw [if_neg c24] at H
                        exact absurd H (by simp)
                    · rw [if_neg c23] at H
                      have c23b0 : decide (x11_3 < (t396.length : Int)) = false := decide_eq_false c23
                      clear c23
                      replace H := Option.bind_eq_some_iff.mp H
                      obtain ⟨t400, A260, H⟩ := H
                      replace H : (if ((t393 == 11) == (decide ((t400.size : Int) > 256))) = true then (if t393 = 0 then ((cubitlaw6_texts.f k3 t392 l0).bind fun t401 => (if t401 = true then (if (t396.length : Int) = (wrap64 (x5_2 + 1)) then (if x10_3 = (wrap64 ((l0.length : Int) - x5_2)) then (some true) else (some false)) else (some false)) else (some false))) else (if (t396.length : Int) = (wrap64 (x5_2 + 1)) then (if x10_3 = (wrap64 ((l0.length : Int) - x5_2)) then (some true) else (some false)) else (some false))) else (some false)) = some true := H
                      have A26 := Aside0.mk A260
                      clear A260
                      by_cases c27 : ((t393 == 11) == (decide ((t400.size : Int) > 256))) = true
                      · rw [if_pos c27] at H
                        have c27b0 : ((t393 == 11) == (decide ((t400.size : Int) > 256))) = true := c27
                        (try (have c27b1 : decide ((t393 == 11) = (decide ((t400.size : Int) > 256))) = true := by simpa using c27))
                        (try (have c27b2 : ((t393 == 11) == (decide ((t400.size : Int) > 256))) = true := by simpa using c27))
                        clear c27
                        by_cases c28 : t393 = 0
                        · rw [if_pos c28] at H
                          have c28b0 : (t393 == 0) = true := beq_iff_eq.mpr c28
                          have c28b1 : (t393 != 0) = false := bne_eq_false_iff_eq.mpr c28
                          clear c28
                          replace H := Option.bind_eq_some_iff.mp H
                          obtain ⟨t401, A290, H⟩ := H
                          replace H : (if t401 = true then (if (t396.length : Int) = (wrap64 (x5_2 + 1)) then (if x10_3 = (wrap64 ((l0.length : Int) - x5_2)) then (some true) else (some false)) else (some false)) else (some false)) = some true := H
                          have A29 := Aside0.mk A290
                          clear A290
                          by_cases c30 : t401 = true
                          · subst c30
                            have H1 : (if (t396.length : Int) = (wrap64 (x5_2 + 1)) then (if x10_3 = (wrap64 ((l0.length : Int) - x5_2)) then (some true) else (some false)) else (some false)) = some true := by (rw [if_pos rfl] at H); first | done | exact H
                            clear H
                            have H := H1
                            clear H1
                            by_cases c31 : (t396.length : Int) = (wrap64 (x5_2 + 1))
                            · rw [if_pos c31] at H
                              have c31b0 : ((t396.length : Int) == (wrap64 (x5_2 + 1))) = true := beq_iff_eq.mpr c31
                              have c31b1 : ((t396.length : Int) != (wrap64 (x5_2 + 1))) = false := bne_eq_false_iff_eq.mpr c31
                              clear c31
                              by_cases c32 : x10_3 = (wrap64 ((l0.length : Int) - x5_2))
                              · rw [if_pos c32] at H
                                have c32b0 : (x10_3 == (wrap64 ((l0.length : Int) - x5_2))) = true := beq_iff_eq.mpr c32
                                have c32b1 : (x10_3 != (wrap64 ((l0.length : Int) - x5_2))) = false := bne_eq_false_iff_eq.mpr c32
                                clear c32
                                clear H
                                obtain ⟨Ao33, co33, eo33⟩ := Kd.S_slice HO_9.out
                                subst eo33
                                go_wp2_with (first | ((with_reducible refine gate_callee (f := 34) rfl ?_); refine goesL_ (some 67) rfl rfl Tryd.func34 (by kernel_rfl) rfl #[.slice A0 l0.length c0] rfl (by (try simp only [List.map_toArray, List.map_cons, List.map_nil]); first | done | rfl | (simp only [List.length_drop, List.length_take]; rfl)) ?_; (with_reducible refine (word_Join.calls _ _ l0 t400 _ ?side1 ?side2 A26.out ?side3).mono ?_); (case side1 => repeat (first | exact (Kd.C_below HR0.out HB.out) | (with_reducible refine Kd.C_alloc ?_ _) | (with_reducible refine Kd.C_drewN ?_ _) | (with_reducible refine Kd.C_drew ?_))); (case side2 => exact HC0.out); (case side3 => exact Glob.below HG.out (by repeat (first | (with_reducible first | exact HB.out | apply below_alloc | apply pw_below_drewN | apply below_drew1) | exact HB.out))); rintro e w34 ⟨rfl, hb⟩; refine ⟨_, rfl, ?_⟩; have n0_ := Aside0.mk (Kd.R_below (by (with_reducible repeat (first | apply Kd.R_alloc | apply Kd.R_drewN | apply Kd.R_drew)); exact HO_7.out) hb); have n1_ := Aside0.mk (Kd.S_below (by (with_reducible repeat (first | apply Kd.S_alloc | apply Kd.S_drewN | apply Kd.S_drew)); exact HO_9.out) hb); have n2_ := Aside0.mk (below_step (by repeat (first | (with_reducible first | exact HB.out | apply below_alloc | apply pw_below_drewN | apply below_drew1) | exact HB.out)) hb); clear HO_7; clear HO_9; clear HB; have HO_7 := n0_; have HO_9 := n1_; have HB := n2_; clear n0_ n1_ n2_; (try clear hb); (try clear hb2); (try clear hk); (try clear hi); obtain ⟨Ao35, co35, eo35⟩ := Kd.R_slice HO_7.out; subst eo35) | (go_at_call 31; (with_reducible refine (cubitlaw6_texts.calls k3 _ _ t392 _ _ l0 true _ ?side1 ?side2 ?side3 ?side4 A29.out ?side5).mono ?_); (case side1 => repeat (first | exact (Kd.R_reads' HO_7.out).2.2 | (with_reducible refine Kd.C_alloc ?_ _) | (with_reducible refine Kd.C_drewN ?_ _) | (with_reducible refine Kd.C_drew ?_))); (case side2 => exact (Kd.R_reads' HO_7.out).2.1); (case side3 => repeat (first | exact (Kd.C_below HR0.out HB.out) | (with_reducible refine Kd.C_alloc ?_ _) | (with_reducible refine Kd.C_drewN ?_ _) | (with_reducible refine Kd.C_drew ?_))); (case side4 => exact HC0.out); (case side5 => exact Glob.below HG.out (by repeat (first | (with_reducible first | exact HB.out | apply below_alloc | apply pw_below_drewN | apply below_drew1) | exact HB.out))); rintro e w' ⟨rfl, ⟨nd, rfl⟩⟩))
                                go_ret
                                exact ⟨by first | rfl | (simp [errW_none, errW_some] <;> rfl) | (simp [*, errW_none, errW_some] <;> rfl), by repeat (first | (with_reducible first | exact HB.out | apply below_alloc | apply pw_below_drewN | apply below_drew1) | exact HB.out)⟩
                              · rw [if_neg c32] at H
                                have c32b0 : (x10_3 == (wrap64 ((l0.length : Int) - x5_2))) = false := beq_eq_false_iff_ne.mpr c32
                                have c32b1 : (x10_3 != (wrap64 ((l0.length : Int) - x5_2))) = true := bne_iff_ne.mpr c32
                                exact absurd H (by simp)
                            · rw [if_neg c31] at H
                              have c31b0 : ((t396.length : Int) == (wrap64 (x5_2 + 1))) = false := beq_eq_false_iff_ne.mpr c31
                              have c31b1 : ((t396.length : Int) != (wrap64 (x5_2 + 1))) = true := bne_iff_ne.mpr c31
                              exact absurd H (by simp)
                          · replace c30 := Bool.eq_false_iff.mpr c30
                            subst c30
                            have H1 : (some false) = some true := by (rw [if_neg (show ¬ (false = true) by decide)] at H); first | done | exact H
                            clear H
                            have H := H1
                            clear H1
                            exact absurd H (by simp)
                        · rw [if_neg c28] at H
                          have c28b0 : (t393 == 0) = false := beq_eq_false_iff_ne.mpr c28
                          have c28b1 : (t393 != 0) = true := bne_iff_ne.mpr c28
                          by_cases c36 : (t396.length : Int) = (wrap64 (x5_2 + 1))
                          · rw [if_pos c36] at H
                            have c36b0 : ((t396.length : Int) == (wrap64 (x5_2 + 1))) = true := beq_iff_eq.mpr c36
                            have c36b1 : ((t396.length : Int) != (wrap64 (x5_2 + 1))) = false := bne_eq_false_iff_eq.mpr c36
                            clear c36
                            by_cases c37 : x10_3 = (wrap64 ((l0.length : Int) - x5_2))
                            · rw [if_pos c37] at H
                              have c37b0 : (x10_3 == (wrap64 ((l0.length : Int) - x5_2))) = true := beq_iff_eq.mpr c37
                              have c37b1 : (x10_3 != (wrap64 ((l0.length : Int) - x5_2))) = false := bne_eq_false_iff_eq.mpr c37
                              clear c37
                              clear H
                              obtain ⟨Ao38, co38, eo38⟩ := Kd.S_slice HO_9.out
                              subst eo38
                              go_wp2_with (first | ((with_reducible refine gate_callee (f := 34) rfl ?_); refine goesL_ (some 67) rfl rfl Tryd.func34 (by kernel_rfl) rfl #[.slice A0 l0.length c0] rfl (by (try simp only [List.map_toArray, List.map_cons, List.map_nil]); first | done | rfl | (simp only [List.length_drop, List.length_take]; rfl)) ?_; (with_reducible refine (word_Join.calls _ _ l0 t400 _ ?side1 ?side2 A26.out ?side3).mono ?_); (case side1 => repeat (first | exact (Kd.C_below HR0.out HB.out) | (with_reducible refine Kd.C_alloc ?_ _) | (with_reducible refine Kd.C_drewN ?_ _) | (with_reducible refine Kd.C_drew ?_))); (case side2 => exact HC0.out); (case side3 => exact Glob.below HG.out (by repeat (first | (with_reducible first | exact HB.out | apply below_alloc | apply pw_below_drewN | apply below_drew1) | exact HB.out))); rintro e w39 ⟨rfl, hb⟩; refine ⟨_, rfl, ?_⟩; have n0_ := Aside0.mk (Kd.R_below (by (with_reducible repeat (first | apply Kd.R_alloc | apply Kd.R_drewN | apply Kd.R_drew)); exact HO_7.out) hb); have n1_ := Aside0.mk (Kd.S_below (by (with_reducible repeat (first | apply Kd.S_alloc | apply Kd.S_drewN | apply Kd.S_drew)); exact HO_9.out) hb); have n2_ := Aside0.mk (below_step (by repeat (first | (with_reducible first | exact HB.out | apply below_alloc | apply pw_below_drewN | apply below_drew1) | exact HB.out)) hb); clear HO_7; clear HO_9; clear HB; have HO_7 := n0_; have HO_9 := n1_; have HB := n2_; clear n0_ n1_ n2_; (try clear hb); (try clear hb2); (try clear hk); (try clear hi)))
                              go_ret
                              exact ⟨by first | rfl | (simp [errW_none, errW_some] <;> rfl) | (simp [*, errW_none, errW_some] <;> rfl), by repeat (first | (with_reducible first | exact HB.out | apply below_alloc | apply pw_below_drewN | apply below_drew1) | exact HB.out)⟩
                            · rw [if_neg c37] at H
                              have c37b0 : (x10_3 == (wrap64 ((l0.length : Int) - x5_2))) = false := beq_eq_false_iff_ne.mpr c37
                              have c37b1 : (x10_3 != (wrap64 ((l0.length : Int) - x5_2))) = true := bne_iff_ne.mpr c37
                              exact absurd H (by simp)
                          · rw [if_neg c36] at H
                            have c36b0 : ((t396.length : Int) == (wrap64 (x5_2 + 1))) = false := beq_eq_false_iff_ne.mpr c36
                            have c36b1 : ((t396.length : Int) != (wrap64 (x5_2 + 1))) = true := bne_iff_ne.mpr c36
                            exact absurd H (by simp)
                      · rw [if_neg c27] at H
                        have c27b0 : ((t393 == 11) == (decide ((t400.size : Int) > 256))) = false := by simpa using c27
                        (try (have c27b1 : decide ((t393 == 11) = (decide ((t400.size : Int) > 256))) = false := by simpa using c27))
                        (try (have c27b2 : ((t393 == 11) == (decide ((t400.size : Int) > 256))) = false := by simpa using c27))
                        (try (have c27b3 : ¬ ((t393 == 11) = (decide ((t400.size : Int) > 256))) := by simpa using c27))
                        clear c27
                        exact absurd H (by simp)
  · replace c4 := Bool.eq_false_iff.mpr c4
    subst c4
    have H1 : (some false) = some true := by (rw [if_neg (show ¬ (false = true) by decide)] at H); first | done | exact H
    clear H
    have H := H1
    clear H1
    exact absurd H (by simp)

end Go.Proofs.YthefdpioaapomaaDoor.PA
