-- Written by this session's own run of a patched print program: see NOTES.md.
import Derived.Test.YthefdpioaapomaaDoorPA0
import Derived.Test.YthefdpioaapomaaDoorPA1
import Derived.Test.YthefdpioaapomaaDoorPA2
import Derived.Test.YthefdpioaapomaaDoorPA5
namespace Go.Proofs.YthefdpioaapomaaDoor.PA
open Go.RowKit Go.Proofs.YthefdpioaapomaaDoorW.PrintWords Go.Proofs.YthefdpioaapomaaDoorW.PrintLast Go.Proofs.YthefdpioaapomaaDoor.Ext Go.Proofs.YthefdpioaapomaaDoorW.PrintMore
attribute [local go_sem] max2_int min2_int max_two min_two max_three min_three max_four min_four   -- for this text's walks alone
set_option linter.unusedVariables false
set_option linter.unusedSimpArgs false

/-! ### cubitlaw7_RowsKnown: function 5 -/
mutual
def cubitlaw7_RowsKnown.l0 : Nat → List (S31) → Int → Int → Int → Int → Int → ByteArray → Int → Option (Bool)
  | 0, _, _, _, _, _, _, _, _ => none
  | k + 1, x1, x3, x5, x6, x8, x9, x10, x11 => if x11 < 25 then (if x10.size + 2 ≤ 9223372036854775807 then (cubitlaw7_RowsKnown.l0 k x1 x3 x5 x6 x8 x9 (x10 ++ (⟨#[97, 32]⟩ : ByteArray)) (wrap64 (x11 + 1))) else (none)) else ((rows_Parse.f k x10).bind fun bt210 => (cubitlaw7_RowsKnown.l1 k x1 x3 x5 x6 x8 x9 bt210.2.1 bt210.2.2 (⟨#[]⟩ : ByteArray) 0))
def cubitlaw7_RowsKnown.l1 : Nat → List (S31) → Int → Int → Int → Int → Int → Int → Int → ByteArray → Int → Option (Bool)
  | 0, _, _, _, _, _, _, _, _, _, _ => none
  | k + 1, x1, x3, x5, x6, x8, x9, x13, x14, x15, x16 => if x16 < 2001 then (if x15.size + 2 ≤ 9223372036854775807 then (cubitlaw7_RowsKnown.l1 k x1 x3 x5 x6 x8 x9 x13 x14 (x15 ++ (⟨#[97, 10]⟩ : ByteArray)) (wrap64 (x16 + 1))) else (none)) else ((rows_Parse.f k x15).bind fun bt215 => (cubitlaw7_RowsKnown.l2 k x1 x3 x5 x6 x8 x9 x13 x14 bt215.2.1 bt215.2.2 x15))
def cubitlaw7_RowsKnown.l2 : Nat → List (S31) → Int → Int → Int → Int → Int → Int → Int → Int → Int → ByteArray → Option (Bool)
  | 0, _, _, _, _, _, _, _, _, _, _, _ => none
  | k + 1, x1, x3, x5, x6, x8, x9, x13, x14, x18, x19, x20 => if (x20.size : Int) ≤ 65536 then (if x20.size + x20.size ≤ 9223372036854775807 then (cubitlaw7_RowsKnown.l2 k x1 x3 x5 x6 x8 x9 x13 x14 x18 x19 (x20 ++ x20)) else (none)) else ((rows_Parse.f k x20).bind fun bt220 => ((rows_Of.f k x1 (⟨#[122]⟩ : ByteArray)).bind fun t225 => (if x3 = 0 then ((cubitlaw7_alike.f k x1 (([(⟨2, (([(⟨#[120]⟩ : ByteArray), (⟨#[121, 35, 122]⟩ : ByteArray)] : List ByteArray))⟩ : S36), (⟨5, (([(⟨#[122]⟩ : ByteArray)] : List ByteArray))⟩ : S36)] : List (S36)))).bind fun t237 => (if t237 = true then (if x5 = 2 then (if x6 = 2 then (if x8 = 2 then (if x9 = 2 then (if x13 = 1 then (if x14 = 2 then (if x18 = 2001 then (if x19 = 11 then (if bt220.2.1 = 0 then (if bt220.2.2 = 11 then (if (t225.length : Int) = 1 then (if 0 < (t225.length : Int) then (if ((rd_T31 t225 0).f0) = 5 then ((rows_Of.f k x1 (⟨#[113]⟩ : ByteArray)).bind fun t239 => (if (t239.length : Int) = 0 then (some true) else (some false))) else (some false)) else (none)) else (some false)) else (some false)) else (some false)) else (some false)) else (some false)) else (some false)) else (some false)) else (some false)) else (some false)) else (some false)) else (some false)) else (some false))) else (some false))))
end
def cubitlaw7_RowsKnown.f (k : Nat)  : Option (Bool) := (cubitlaw7_awake.f k).bind fun t194 => (if t194 = true then ((rows_Parse.f k (⟨#[10, 32, 32, 120, 32, 32, 121, 35, 122, 32, 35, 113, 10, 35, 10, 10, 122, 10]⟩ : ByteArray)).bind fun bt195 => ((rows_Parse.f k (⟨#[97, 10, 98, 9, 99]⟩ : ByteArray)).bind fun bt200 => ((rows_Parse.f k (⟨#[97, 10, 35, 32, 128]⟩ : ByteArray)).bind fun bt205 => (cubitlaw7_RowsKnown.l0 k bt195.1 bt195.2.2 bt200.2.1 bt200.2.2 bt205.2.1 bt205.2.2 (⟨#[]⟩ : ByteArray) 0)))) else (some false))
theorem cubitlaw7_RowsKnown.mono_l : ∀ k, (∀ y0 y1 y2 y3 y4 y5 y6 y7, LeO (cubitlaw7_RowsKnown.l0 k y0 y1 y2 y3 y4 y5 y6 y7) (cubitlaw7_RowsKnown.l0 (k + 1) y0 y1 y2 y3 y4 y5 y6 y7)) ∧ (∀ y0 y1 y2 y3 y4 y5 y6 y7 y8 y9, LeO (cubitlaw7_RowsKnown.l1 k y0 y1 y2 y3 y4 y5 y6 y7 y8 y9) (cubitlaw7_RowsKnown.l1 (k + 1) y0 y1 y2 y3 y4 y5 y6 y7 y8 y9)) ∧ (∀ y0 y1 y2 y3 y4 y5 y6 y7 y8 y9 y10, LeO (cubitlaw7_RowsKnown.l2 k y0 y1 y2 y3 y4 y5 y6 y7 y8 y9 y10) (cubitlaw7_RowsKnown.l2 (k + 1) y0 y1 y2 y3 y4 y5 y6 y7 y8 y9 y10))
  | 0 => ⟨fun _ _ _ _ _ _ _ _ r h => by simp [cubitlaw7_RowsKnown.l0] at h, fun _ _ _ _ _ _ _ _ _ _ r h => by simp [cubitlaw7_RowsKnown.l1] at h, fun _ _ _ _ _ _ _ _ _ _ _ r h => by simp [cubitlaw7_RowsKnown.l2] at h⟩
  | k + 1 => by
    obtain ⟨ih0, ih1, ih2⟩ := cubitlaw7_RowsKnown.mono_l k
    refine ⟨?_, ?_, ?_⟩
    · intro y0 y1 y2 y3 y4 y5 y6 y7
      unfold cubitlaw7_RowsKnown.l0
      repeat' first
      | (with_reducible exact ih0 _ _ _ _ _ _ _ _)
      | (with_reducible exact ih1 _ _ _ _ _ _ _ _ _ _)
      | (with_reducible exact ih2 _ _ _ _ _ _ _ _ _ _ _)
      | (with_reducible exact cubitlaw7_alike.mono _ _ _)
      | (with_reducible exact cubitlaw7_awake.mono _)
      | (with_reducible exact rows_Of.mono _ _ _)
      | (with_reducible exact rows_Parse.mono _ _)
      | (with_reducible exact LeO.refl _)
      | (with_reducible exact LeO.none _)
      | (with_reducible refine LeO.ite ?_ ?_)
      | (with_reducible refine LeO.bind ?_ (fun _ => ?_))
      | exact ih0 _ _ _ _ _ _ _ _
      | exact ih1 _ _ _ _ _ _ _ _ _ _
      | exact ih2 _ _ _ _ _ _ _ _ _ _ _
      | exact cubitlaw7_alike.mono _ _ _
      | exact cubitlaw7_awake.mono _
      | exact rows_Of.mono _ _ _
      | exact rows_Parse.mono _ _
      | exact LeO.none _
      | refine LeO.ite ?_ ?_
      | refine LeO.bind ?_ (fun _ => ?_)
    · intro y0 y1 y2 y3 y4 y5 y6 y7 y8 y9
      unfold cubitlaw7_RowsKnown.l1
      repeat' first
      | (with_reducible exact ih0 _ _ _ _ _ _ _ _)
      | (with_reducible exact ih1 _ _ _ _ _ _ _ _ _ _)
      | (with_reducible exact ih2 _ _ _ _ _ _ _ _ _ _ _)
      | (with_reducible exact cubitlaw7_alike.mono _ _ _)
      | (with_reducible exact cubitlaw7_awake.mono _)
      | (with_reducible exact rows_Of.mono _ _ _)
      | (with_reducible exact rows_Parse.mono _ _)
      | (with_reducible exact LeO.refl _)
      | (with_reducible exact LeO.none _)
      | (with_reducible refine LeO.ite ?_ ?_)
      | (with_reducible refine LeO.bind ?_ (fun _ => ?_))
      | exact ih0 _ _ _ _ _ _ _ _
      | exact ih1 _ _ _ _ _ _ _ _ _ _
      | exact ih2 _ _ _ _ _ _ _ _ _ _ _
      | exact cubitlaw7_alike.mono _ _ _
      | exact cubitlaw7_awake.mono _
      | exact rows_Of.mono _ _ _
      | exact rows_Parse.mono _ _
      | exact LeO.none _
      | refine LeO.ite ?_ ?_
      | refine LeO.bind ?_ (fun _ => ?_)
    · intro y0 y1 y2 y3 y4 y5 y6 y7 y8 y9 y10
      unfold cubitlaw7_RowsKnown.l2
      repeat' first
      | (with_reducible exact ih0 _ _ _ _ _ _ _ _)
      | (with_reducible exact ih1 _ _ _ _ _ _ _ _ _ _)
      | (with_reducible exact ih2 _ _ _ _ _ _ _ _ _ _ _)
      | (with_reducible exact cubitlaw7_alike.mono _ _ _)
      | (with_reducible exact cubitlaw7_awake.mono _)
      | (with_reducible exact rows_Of.mono _ _ _)
      | (with_reducible exact rows_Parse.mono _ _)
      | (with_reducible exact LeO.refl _)
      | (with_reducible exact LeO.none _)
      | (with_reducible refine LeO.ite ?_ ?_)
      | (with_reducible refine LeO.bind ?_ (fun _ => ?_))
      | exact ih0 _ _ _ _ _ _ _ _
      | exact ih1 _ _ _ _ _ _ _ _ _ _
      | exact ih2 _ _ _ _ _ _ _ _ _ _ _
      | exact cubitlaw7_alike.mono _ _ _
      | exact cubitlaw7_awake.mono _
      | exact rows_Of.mono _ _ _
      | exact rows_Parse.mono _ _
      | exact LeO.none _
      | refine LeO.ite ?_ ?_
      | refine LeO.bind ?_ (fun _ => ?_)
theorem cubitlaw7_RowsKnown.mono : ∀ k, LeO (cubitlaw7_RowsKnown.f k ) (cubitlaw7_RowsKnown.f (k + 1) ) := by
  intro  k
  obtain ⟨ih0, ih1, ih2⟩ := cubitlaw7_RowsKnown.mono_l k
  unfold cubitlaw7_RowsKnown.f
  repeat' first
      | (with_reducible exact ih0 _ _ _ _ _ _ _ _)
      | (with_reducible exact ih1 _ _ _ _ _ _ _ _ _ _)
      | (with_reducible exact ih2 _ _ _ _ _ _ _ _ _ _ _)
      | (with_reducible exact cubitlaw7_alike.mono _ _ _)
      | (with_reducible exact cubitlaw7_awake.mono _)
      | (with_reducible exact rows_Of.mono _ _ _)
      | (with_reducible exact rows_Parse.mono _ _)
      | (with_reducible exact LeO.refl _)
      | (with_reducible exact LeO.none _)
      | (with_reducible refine LeO.ite ?_ ?_)
      | (with_reducible refine LeO.bind ?_ (fun _ => ?_))
      | exact ih0 _ _ _ _ _ _ _ _
      | exact ih1 _ _ _ _ _ _ _ _ _ _
      | exact ih2 _ _ _ _ _ _ _ _ _ _ _
      | exact cubitlaw7_alike.mono _ _ _
      | exact cubitlaw7_awake.mono _
      | exact rows_Of.mono _ _ _
      | exact rows_Parse.mono _ _
      | exact LeO.none _
      | refine LeO.ite ?_ ?_
      | refine LeO.bind ?_ (fun _ => ?_)
set_option maxHeartbeats 8000000 in
set_option maxRecDepth 100000 in
theorem cubitlaw7_RowsKnown.calls (k : Nat)  (r : Bool) (w : World) (h : cubitlaw7_RowsKnown.f k  = some r) (hT : r = true) (hG : Glob w) :
    Calls Tryd.prog 5 #[] w fun e w' => e = .returned (.bool r) ∧ Below w.heap.size w w' := by
  have hu36 := Tryd.underlying36
  have HB := Aside0.mk (Below.refl w.heap.size w)
  subst hT
  have H : ((cubitlaw7_awake.f k).bind fun t194 => (if t194 = true then ((rows_Parse.f k (⟨#[10, 32, 32, 120, 32, 32, 121, 35, 122, 32, 35, 113, 10, 35, 10, 10, 122, 10]⟩ : ByteArray)).bind fun bt195 => ((rows_Parse.f k (⟨#[97, 10, 98, 9, 99]⟩ : ByteArray)).bind fun bt200 => ((rows_Parse.f k (⟨#[97, 10, 35, 32, 128]⟩ : ByteArray)).bind fun bt205 => (cubitlaw7_RowsKnown.l0 k bt195.1 bt195.2.2 bt200.2.1 bt200.2.2 bt205.2.1 bt205.2.2 (⟨#[]⟩ : ByteArray) 0)))) else (some false))) = some true := h
  clear h
  have HG := Aside0.mk hG
  clear hG
  replace H := Option.bind_eq_some_iff.mp H
  obtain ⟨t194, A10, H⟩ := H
  replace H : (if t194 = true then ((rows_Parse.f k (⟨#[10, 32, 32, 120, 32, 32, 121, 35, 122, 32, 35, 113, 10, 35, 10, 10, 122, 10]⟩ : ByteArray)).bind fun bt195 => ((rows_Parse.f k (⟨#[97, 10, 98, 9, 99]⟩ : ByteArray)).bind fun bt200 => ((rows_Parse.f k (⟨#[97, 10, 35, 32, 128]⟩ : ByteArray)).bind fun bt205 => (cubitlaw7_RowsKnown.l0 k bt195.1 bt195.2.2 bt200.2.1 bt200.2.2 bt205.2.1 bt205.2.2 (⟨#[]⟩ : ByteArray) 0)))) else (some false)) = some true := H
  have A1 := Aside0.mk A10
  clear A10
  by_cases c2 : t194 = true
  · subst c2
    have H1 : ((rows_Parse.f k (⟨#[10, 32, 32, 120, 32, 32, 121, 35, 122, 32, 35, 113, 10, 35, 10, 10, 122, 10]⟩ : ByteArray)).bind fun bt195 => ((rows_Parse.f k (⟨#[97, 10, 98, 9, 99]⟩ : ByteArray)).bind fun bt200 => ((rows_Parse.f k (⟨#[97, 10, 35, 32, 128]⟩ : ByteArray)).bind fun bt205 => (cubitlaw7_RowsKnown.l0 k bt195.1 bt195.2.2 bt200.2.1 bt200.2.2 bt205.2.1 bt205.2.2 (⟨#[]⟩ : ByteArray) 0)))) = some true := by (rw [if_pos rfl] at H); first | done | exact H
    clear H
    have H := H1
    clear H1
    replace H := Option.bind_eq_some_iff.mp H
    obtain ⟨⟨t195, t196, t197⟩, A30, H⟩ := H
    replace H : ((rows_Parse.f k (⟨#[97, 10, 98, 9, 99]⟩ : ByteArray)).bind fun bt200 => ((rows_Parse.f k (⟨#[97, 10, 35, 32, 128]⟩ : ByteArray)).bind fun bt205 => (cubitlaw7_RowsKnown.l0 k t195 t197 bt200.2.1 bt200.2.2 bt205.2.1 bt205.2.2 (⟨#[]⟩ : ByteArray) 0))) = some true := H
    have A3 := Aside0.mk A30
    clear A30
    replace H := Option.bind_eq_some_iff.mp H
    obtain ⟨⟨t200, t201, t202⟩, A40, H⟩ := H
    replace H : ((rows_Parse.f k (⟨#[97, 10, 35, 32, 128]⟩ : ByteArray)).bind fun bt205 => (cubitlaw7_RowsKnown.l0 k t195 t197 t201 t202 bt205.2.1 bt205.2.2 (⟨#[]⟩ : ByteArray) 0)) = some true := H
    have A4 := Aside0.mk A40
    clear A40
    replace H := Option.bind_eq_some_iff.mp H
    obtain ⟨⟨t205, t206, t207⟩, A50, H⟩ := H
    replace H : (cubitlaw7_RowsKnown.l0 k t195 t197 t201 t202 t206 t207 (⟨#[]⟩ : ByteArray) 0) = some true := H
    have A5 := Aside0.mk A50
    clear A50
    have H' := Aside0.mk H
    clear H
    go_enter Tryd.func5, Tryd.ntmps5
    simp only [List.append]
    go_wp2_with (first | ((with_reducible refine gate_callee (f := 19) rfl ?_); refine goesL_ (some 25) rfl rfl Tryd.func19 (by kernel_rfl) rfl #[] rfl (by (try simp only [List.map_toArray, List.map_cons, List.map_nil]); first | done | rfl | (simp only [List.length_drop, List.length_take]; rfl)) ?_; (with_reducible refine (cubitlaw7_awake.calls k  true _ A1.out rfl ?side1).mono ?_); (case side1 => exact Glob.below HG.out (by repeat (first | (with_reducible first | exact HB.out | apply below_alloc | apply pw_below_drewN | apply below_drew1) | exact HB.out))); rintro e w6 ⟨rfl, hb⟩; refine ⟨_, rfl, ?_⟩; have n0_ := Aside0.mk (below_step (by repeat (first | (with_reducible first | exact HB.out | apply below_alloc | apply pw_below_drewN | apply below_drew1) | exact HB.out)) hb); clear HB; have HB := n0_; clear n0_; (try clear hb); (try clear hb2); (try clear hk); (try clear hi)) | ((with_reducible refine gate_callee (f := 20) rfl ?_); refine goesL_ (some 28) rfl rfl Tryd.func20 (by kernel_rfl) rfl #[.string (⟨#[10, 32, 32, 120, 32, 32, 121, 35, 122, 32, 35, 113, 10, 35, 10, 10, 122, 10]⟩ : ByteArray)] rfl (by (try simp only [List.map_toArray, List.map_cons, List.map_nil]); first | done | rfl | (simp only [List.length_drop, List.length_take]; rfl)) ?_; (with_reducible refine (rows_Parse.calls k (⟨#[10, 32, 32, 120, 32, 32, 121, 35, 122, 32, 35, 113, 10, 35, 10, 10, 122, 10]⟩ : ByteArray) t195 t196 t197 _ A3.out ?side1).mono ?_); (case side1 => exact Glob.below HG.out (by repeat (first | (with_reducible first | exact HB.out | apply below_alloc | apply pw_below_drewN | apply below_drew1) | exact HB.out))); rintro e w7 ⟨v198, rfl, ho0, hb⟩; refine ⟨_, rfl, ?_⟩; have n0_ := Aside0.mk (Kd.N_lower (Kd.N_mono (ok' := fun k_ => True) (Kd.S_N (Kd.S_bound ho0)) (fun k_ hk_ => trivial)) (below_size (by repeat (first | (with_reducible first | exact HB.out | apply below_alloc | apply pw_below_drewN | apply below_drew1) | exact HB.out)))); have n1_ := Aside0.mk (below_step (by repeat (first | (with_reducible first | exact HB.out | apply below_alloc | apply pw_below_drewN | apply below_drew1) | exact HB.out)) hb); clear HB; have HO199 := n0_; have HB := n1_; clear n0_ n1_; (try clear hb); (try clear hb2); (try clear hk); (try clear hi); (try clear ho0)) | ((with_reducible refine gate_callee (f := 20) rfl ?_); refine goesL_ (some 33) rfl rfl Tryd.func20 (by kernel_rfl) rfl #[.string (⟨#[97, 10, 98, 9, 99]⟩ : ByteArray)] rfl (by (try simp only [List.map_toArray, List.map_cons, List.map_nil]); first | done | rfl | (simp only [List.length_drop, List.length_take]; rfl)) ?_; (with_reducible refine (rows_Parse.calls k (⟨#[97, 10, 98, 9, 99]⟩ : ByteArray) t200 t201 t202 _ A4.out ?side1).mono ?_); (case side1 => exact Glob.below HG.out (by repeat (first | (with_reducible first | exact HB.out | apply below_alloc | apply pw_below_drewN | apply below_drew1) | exact HB.out))); rintro e w8 ⟨v203, rfl, ho0, hb⟩; refine ⟨_, rfl, ?_⟩; have n0_ := Aside0.mk (Kd.N_elder' (by (with_reducible repeat (first | apply Kd.N_alloc | apply Kd.N_drewN | apply Kd.N_drew)); exact HO199.out) (by first | exact Kd.N_base ho0 | exact Kd.S_base ho0) hb); have n1_ := Aside0.mk (Kd.N_lower (Kd.N_mono (ok' := fun k_ => some k_ ≠ (v198 : Value).ownBlock) (Kd.S_N (Kd.S_bound ho0)) (fun k_ hk_ => (Kd.fresh' (Kd.N_lt (by (with_reducible repeat (first | apply Kd.N_alloc | apply Kd.N_drewN | apply Kd.N_drew)); exact HO199.out)) k_ hk_.2.1))) (below_size (by repeat (first | (with_reducible first | exact HB.out | apply below_alloc | apply pw_below_drewN | apply below_drew1) | exact HB.out)))); have n2_ := Aside0.mk (below_step (by repeat (first | (with_reducible first | exact HB.out | apply below_alloc | apply pw_below_drewN | apply below_drew1) | exact HB.out)) hb); clear HO199; clear HB; have HO199 := n0_; have HO204 := n1_; have HB := n2_; clear n0_ n1_ n2_; (try clear hb); (try clear hb2); (try clear hk); (try clear hi); (try clear ho0)) | ((with_reducible refine gate_callee (f := 20) rfl ?_); refine goesL_ (some 38) rfl rfl Tryd.func20 (by kernel_rfl) rfl #[.string (⟨#[97, 10, 35, 32, 128]⟩ : ByteArray)] rfl (by (try simp only [List.map_toArray, List.map_cons, List.map_nil]); first | done | rfl | (simp only [List.length_drop, List.length_take]; rfl)) ?_; (with_reducible refine (rows_Parse.calls k (⟨#[97, 10, 35, 32, 128]⟩ : ByteArray) t205 t206 t207 _ A5.out ?side1).mono ?_); (case side1 => exact Glob.below HG.out (by repeat (first | (with_reducible first | exact HB.out | apply below_alloc | apply pw_below_drewN | apply below_drew1) | exact HB.out))); rintro e w9 ⟨v208, rfl, ho0, hb⟩; refine ⟨_, rfl, ?_⟩; have n0_ := Aside0.mk (Kd.N_elder' (by (with_reducible repeat (first | apply Kd.N_alloc | apply Kd.N_drewN | apply Kd.N_drew)); exact HO199.out) (by first | exact Kd.N_base ho0 | exact Kd.S_base ho0) hb); have n1_ := Aside0.mk (Kd.N_elder' (by (with_reducible repeat (first | apply Kd.N_alloc | apply Kd.N_drewN | apply Kd.N_drew)); exact HO204.out) (by first | exact Kd.N_base ho0 | exact Kd.S_base ho0) hb); have n2_ := Aside0.mk (Kd.N_lower (Kd.N_mono (ok' := fun k_ => some k_ ≠ (v198 : Value).ownBlock ∧ some k_ ≠ (v203 : Value).ownBlock) (Kd.S_N (Kd.S_bound ho0)) (fun k_ hk_ => ⟨(Kd.fresh' (Kd.N_lt (by (with_reducible repeat (first | apply Kd.N_alloc | apply Kd.N_drewN | apply Kd.N_drew)); exact HO199.out)) k_ hk_.2.1), (Kd.fresh' (Kd.N_lt (by (with_reducible repeat (first | apply Kd.N_alloc | apply Kd.N_drewN | apply Kd.N_drew)); exact HO204.out)) k_ hk_.2.1)⟩)) (below_size (by repeat (first | (with_reducible first | exact HB.out | apply below_alloc | apply pw_below_drewN | apply below_drew1) | exact HB.out)))); have n3_ := Aside0.mk (below_step (by repeat (first | (with_reducible first | exact HB.out | apply below_alloc | apply pw_below_drewN | apply below_drew1) | exact HB.out)) hb); clear HO199; clear HO204; clear HB; have HO199 := n0_; have HO204 := n1_; have HO209 := n2_; have HB := n3_; clear n0_ n1_ n2_ n3_; (try clear hb); (try clear hb2); (try clear hk); (try clear hi); (try clear ho0)))
    go_loopg [10, 11] k (fun kq v10 v11 w' => ∃ (x10_1 : ByteArray) (x11_1 : Int), v10 = .string x10_1 ∧ v11 = .int .i64 x11_1 ∧ Aside0 (cubitlaw7_RowsKnown.l0 kq t195 t197 t201 t202 t206 t207 x10_1 x11_1 = some true) ∧ Aside0 (kq ≤ k) ∧ Aside0 (Kd.N k31 31 w' w.heap.size (fun _ => True) v198 t195) ∧ Aside0 (Below w.heap.size w w'))
    case atStart => exact ⟨((⟨#[]⟩ : ByteArray)), (0), (by first | rfl | (simp; done) | (simp only [i64_w, i32_w]; done) | (simp [*]; done)), (by first | rfl | (simp; done) | (simp only [i64_w, i32_w]; done) | (simp [*]; done)), H', ⟨Nat.le_refl _⟩, ⟨by (with_reducible repeat (first | apply Kd.N_alloc | apply Kd.N_drewN | apply Kd.N_drew)); exact Kd.N_mono HO199.out (fun _ hk => trivial)⟩, ⟨by repeat (first | (with_reducible first | exact HB.out | apply below_alloc | apply pw_below_drewN | apply below_drew1) | exact HB.out)⟩⟩
    case round =>
      clear H'
      try clear c1
      try clear c2
      try clear p2
      try clear c5
      obtain ⟨x10_1, x11_1, rfl, rfl, HA, HK1, HO_1, HB⟩ := hrel
      cases gk with
      | zero => exact absurd HA.out (by simp [cubitlaw7_RowsKnown.l0])
      | succ k1 =>
        have H := HA.out
        clear HA
        simp only [cubitlaw7_RowsKnown.l0] at H
        by_cases c10 : x11_1 < 25
        · rw [if_pos c10] at H
          have c10b0 : decide (x11_1 < 25) = true := decide_eq_true c10
          clear c10
          by_cases c11 : x10_1.size + 2 ≤ 9223372036854775807
          · rw [if_pos c11] at H
            have c11b0 := eq_true c11
            have c11b1 : decide (x10_1.size + 2 ≤ 9223372036854775807) = true := decide_eq_true c11
            try have c11b2 : (9223372036854775807 < x10_1.size + 2) = False := eq_false (Nat.not_lt.2 c11)
            have H' := Aside0.mk H
            clear H
            go_wp2
            go_roundg k1
            case measure => have := HK1.out; omega
            case rel => exact ⟨(x10_1 ++ (⟨#[97, 32]⟩ : ByteArray)), (wrap64 (x11_1 + 1)), (by first | rfl | (simp; done) | (simp only [i64_w, i32_w]; done) | (simp [*]; done)), (by first | rfl | (simp; done) | (simp only [i64_w, i32_w]; done) | (simp [*]; done)), H', ⟨by have := HK1.out; omega⟩, ⟨by (with_reducible repeat (first | apply Kd.N_alloc | apply Kd.N_drewN | apply Kd.N_drew)); exact HO_1.out⟩, ⟨by repeat (first | (with_reducible first | exact HB.out | apply below_alloc | apply pw_below_drewN | apply below_drew1) | exact HB.out)⟩⟩
          · rw [if_neg c11] at H
            exact absurd H (by simp)
        · rw [if_neg c10] at H
          have c10b0 : decide (x11_1 < 25) = false := decide_eq_false c10
          clear c10
          replace H := Option.bind_eq_some_iff.mp H
          obtain ⟨⟨t210, t211, t212⟩, A120, H⟩ := H
          replace H : (cubitlaw7_RowsKnown.l1 k1 t195 t197 t201 t202 t206 t207 t211 t212 (⟨#[]⟩ : ByteArray) 0) = some true := H
          have A12 := Aside0.mk A120
          clear A120
          have H' := Aside0.mk H
          clear H
          go_wp2_with (first | ((with_reducible refine gate_callee (f := 20) rfl ?_); refine goesL_ (some 50) rfl rfl Tryd.func20 (by kernel_rfl) rfl #[.string x10_1] rfl (by (try simp only [List.map_toArray, List.map_cons, List.map_nil]); first | done | rfl | (simp only [List.length_drop, List.length_take]; rfl)) ?_; (with_reducible refine (rows_Parse.calls k1 x10_1 t210 t211 t212 _ A12.out ?side1).mono ?_); (case side1 => exact Glob.below HG.out (by repeat (first | (with_reducible first | exact HB.out | apply below_alloc | apply pw_below_drewN | apply below_drew1) | exact HB.out))); rintro e w13 ⟨v213, rfl, ho0, hb⟩; refine ⟨_, rfl, ?_⟩; have n0_ := Aside0.mk (Kd.N_elder' (by (with_reducible repeat (first | apply Kd.N_alloc | apply Kd.N_drewN | apply Kd.N_drew)); exact HO_1.out) (by first | exact Kd.N_base ho0 | exact Kd.S_base ho0) hb); have n1_ := Aside0.mk (Kd.N_lower (Kd.N_mono (ok' := fun k_ => some k_ ≠ (v198 : Value).ownBlock) (Kd.S_N (Kd.S_bound ho0)) (fun k_ hk_ => (Kd.fresh' (Kd.N_lt (by (with_reducible repeat (first | apply Kd.N_alloc | apply Kd.N_drewN | apply Kd.N_drew)); exact HO_1.out)) k_ hk_.2.1))) (below_size (by repeat (first | (with_reducible first | exact HB.out | apply below_alloc | apply pw_below_drewN | apply below_drew1) | exact HB.out)))); have n2_ := Aside0.mk (below_step (by repeat (first | (with_reducible first | exact HB.out | apply below_alloc | apply pw_below_drewN | apply below_drew1) | exact HB.out)) hb); clear HO_1; clear HB; have HO_1 := n0_; have HO214 := n1_; have HB := n2_; clear n0_ n1_ n2_; (try clear hb); (try clear hb2); (try clear hk); (try clear hi); (try clear ho0)))
          go_loopg [15, 16] k1 (fun kq v15 v16 w' => ∃ (x15_2 : ByteArray) (x16_2 : Int), v15 = .string x15_2 ∧ v16 = .int .i64 x16_2 ∧ Aside0 (cubitlaw7_RowsKnown.l1 kq t195 t197 t201 t202 t206 t207 t211 t212 x15_2 x16_2 = some true) ∧ Aside0 (kq ≤ k1) ∧ Aside0 (Kd.N k31 31 w' w.heap.size (fun _ => True) v198 t195) ∧ Aside0 (Below w.heap.size w w'))
          case atStart => exact ⟨((⟨#[]⟩ : ByteArray)), (0), (by first | rfl | (simp; done) | (simp only [i64_w, i32_w]; done) | (simp [*]; done)), (by first | rfl | (simp; done) | (simp only [i64_w, i32_w]; done) | (simp [*]; done)), H', ⟨Nat.le_refl _⟩, ⟨by (with_reducible repeat (first | apply Kd.N_alloc | apply Kd.N_drewN | apply Kd.N_drew)); exact Kd.N_mono HO_1.out (fun _ hk => trivial)⟩, ⟨by repeat (first | (with_reducible first | exact HB.out | apply below_alloc | apply pw_below_drewN | apply below_drew1) | exact HB.out)⟩⟩
          case round =>
            clear H'
            try clear c1
            try clear c2
            try clear p2
            try clear c5
            try clear p6
            try clear c10
            try clear c10b0
            try clear c11
            try clear c11b0
            try clear c11b1
            try clear c11b2
            try clear p2
            obtain ⟨x15_2, x16_2, rfl, rfl, HA, HK2, HO_1, HB⟩ := hrel
            cases gk with
            | zero => exact absurd HA.out (by simp [cubitlaw7_RowsKnown.l1])
            | succ k2 =>
              have H := HA.out
              clear HA
              simp only [cubitlaw7_RowsKnown.l1] at H
              by_cases c14 : x16_2 < 2001
              · rw [if_pos c14] at H
                have c14b0 : decide (x16_2 < 2001) = true := decide_eq_true c14
                clear c14
                by_cases c15 : x15_2.size + 2 ≤ 9223372036854775807
                · rw [if_pos c15] at H
                  have c15b0 := eq_true c15
                  have c15b1 : decide (x15_2.size + 2 ≤ 9223372036854775807) = true := decide_eq_true c15
                  try have c15b2 : (9223372036854775807 < x15_2.size + 2) = False := eq_false (Nat.not_lt.2 c15)
                  have H' := Aside0.mk H
                  clear H
                  go_wp2
                  go_roundg k2
                  case measure => have := HK1.out; have := HK2.out; omega
                  case rel => exact ⟨(x15_2 ++ (⟨#[97, 10]⟩ : ByteArray)), (wrap64 (x16_2 + 1)), (by first | rfl | (simp; done) | (simp only [i64_w, i32_w]; done) | (simp [*]; done)), (by first | rfl | (simp; done) | (simp only [i64_w, i32_w]; done) | (simp [*]; done)), H', ⟨by have := HK1.out; have := HK2.out; omega⟩, ⟨by (with_reducible repeat (first | apply Kd.N_alloc | apply Kd.N_drewN | apply Kd.N_drew)); exact HO_1.out⟩, ⟨by repeat (first | (with_reducible first | exact HB.out | apply below_alloc | apply pw_below_drewN | apply below_drew1) | exact HB.out)⟩⟩
                · rw [if_neg c15] at H
                  exact absurd H (by simp)
              · rw [if_neg c14] at H
                have c14b0 : decide (x16_2 < 2001) = false := decide_eq_false c14
                clear c14
                replace H := Option.bind_eq_some_iff.mp H
                obtain ⟨⟨t215, t216, t217⟩, A160, H⟩ := H
                replace H : (cubitlaw7_RowsKnown.l2 k2 t195 t197 t201 t202 t206 t207 t211 t212 t216 t217 x15_2) = some true := H
                have A16 := Aside0.mk A160
                clear A160
                have H' := Aside0.mk H
                clear H
                go_wp2_with (first | ((with_reducible refine gate_callee (f := 20) rfl ?_); refine goesL_ (some 62) rfl rfl Tryd.func20 (by kernel_rfl) rfl #[.string x15_2] rfl (by (try simp only [List.map_toArray, List.map_cons, List.map_nil]); first | done | rfl | (simp only [List.length_drop, List.length_take]; rfl)) ?_; (with_reducible refine (rows_Parse.calls k2 x15_2 t215 t216 t217 _ A16.out ?side1).mono ?_); (case side1 => exact Glob.below HG.out (by repeat (first | (with_reducible first | exact HB.out | apply below_alloc | apply pw_below_drewN | apply below_drew1) | exact HB.out))); rintro e w17 ⟨v218, rfl, ho0, hb⟩; refine ⟨_, rfl, ?_⟩; have n0_ := Aside0.mk (Kd.N_elder' (by (with_reducible repeat (first | apply Kd.N_alloc | apply Kd.N_drewN | apply Kd.N_drew)); exact HO_1.out) (by first | exact Kd.N_base ho0 | exact Kd.S_base ho0) hb); have n1_ := Aside0.mk (Kd.N_lower (Kd.N_mono (ok' := fun k_ => some k_ ≠ (v198 : Value).ownBlock) (Kd.S_N (Kd.S_bound ho0)) (fun k_ hk_ => (Kd.fresh' (Kd.N_lt (by (with_reducible repeat (first | apply Kd.N_alloc | apply Kd.N_drewN | apply Kd.N_drew)); exact HO_1.out)) k_ hk_.2.1))) (below_size (by repeat (first | (with_reducible first | exact HB.out | apply below_alloc | apply pw_below_drewN | apply below_drew1) | exact HB.out)))); have n2_ := Aside0.mk (below_step (by repeat (first | (with_reducible first | exact HB.out | apply below_alloc | apply pw_below_drewN | apply below_drew1) | exact HB.out)) hb); clear HO_1; clear HB; have HO_1 := n0_; have HO219 := n1_; have HB := n2_; clear n0_ n1_ n2_; (try clear hb); (try clear hb2); (try clear hk); (try clear hi); (try clear ho0)))
                go_loopg [20] k2 (fun kq v20 w' => ∃ (x20_3 : ByteArray), v20 = .string x20_3 ∧ Aside0 (cubitlaw7_RowsKnown.l2 kq t195 t197 t201 t202 t206 t207 t211 t212 t216 t217 x20_3 = some true) ∧ Aside0 (kq ≤ k2) ∧ Aside0 (Kd.N k31 31 w' w.heap.size (fun _ => True) v198 t195) ∧ Aside0 (Below w.heap.size w w'))
                case atStart => exact ⟨(x15_2), (by first | rfl | (simp; done) | (simp only [i64_w, i32_w]; done) | (simp [*]; done)), H', ⟨Nat.le_refl _⟩, ⟨by (with_reducible repeat (first | apply Kd.N_alloc | apply Kd.N_drewN | apply Kd.N_drew)); exact Kd.N_mono HO_1.out (fun _ hk => trivial)⟩, ⟨by repeat (first | (with_reducible first | exact HB.out | apply below_alloc | apply pw_below_drewN | apply below_drew1) | exact HB.out)⟩⟩
                case round =>
                  clear H'
                  try clear c1
                  try clear c2
                  try clear p2
                  try clear c5
                  try clear p6
                  try clear c10
                  try clear c10b0
                  try clear c11
                  try clear c11b0
                  try clear c11b1
                  try clear c11b2
                  try clear c14
                  try clear c14b0
                  try clear c15
                  try clear c15b0
                  try clear c15b1
                  try clear c15b2
                  try clear p2
                  try clear p6
                  obtain ⟨x20_3, rfl, HA, HK3, HO_1, HB⟩ := hrel
                  cases gk with
                  | zero => exact absurd HA.out (by simp [cubitlaw7_RowsKnown.l2])
                  | succ k3 =>
                    have H := HA.out
                    clear HA
                    simp only [cubitlaw7_RowsKnown.l2] at H
                    by_cases c18 : (x20_3.size : Int) ≤ 65536
                    · rw [if_pos c18] at H
                      have c18b0 : decide ((x20_3.size : Int) ≤ 65536) = true := decide_eq_true c18
                      have c18b1 : decide (x20_3.size ≤ 65536) = true := decide_eq_true (by omega)
                      clear c18
                      by_cases c19 : x20_3.size + x20_3.size ≤ 9223372036854775807
                      · rw [if_pos c19] at H
                        have c19b0 := eq_true c19
                        have c19b1 : decide (x20_3.size + x20_3.size ≤ 9223372036854775807) = true := decide_eq_true c19
                        try have c19b2 : (9223372036854775807 < x20_3.size + x20_3.size) = False := eq_false (Nat.not_lt.2 c19)
                        have H' := Aside0.mk H
                        clear H
                        go_wp2
                        go_roundg k3
                        case measure => have := HK1.out; have := HK2.out; have := HK3.out; omega
                        case rel => exact ⟨(x20_3 ++ x20_3), (by first | rfl | (simp; done) | (simp only [i64_w, i32_w]; done) | (simp [*]; done)), H', ⟨by have := HK1.out; have := HK2.out; have := HK3.out; omega⟩, ⟨by (with_reducible repeat (first | apply Kd.N_alloc | apply Kd.N_drewN | apply Kd.N_drew)); exact HO_1.out⟩, ⟨by repeat (first | (with_reducible first | exact HB.out | apply below_alloc | apply pw_below_drewN | apply below_drew1) | exact HB.out)⟩⟩
                      · rw [if_neg c19] at H
                        exact absurd H (by simp)
                    · rw [if_neg c18] at H
                      have c18b0 : decide ((x20_3.size : Int) ≤ 65536) = false := decide_eq_false c18
                      have c18b1 : decide (x20_3.size ≤ 65536) = false := decide_eq_false (by omega)
                      clear c18
                      replace H := Option.bind_eq_some_iff.mp H
                      obtain ⟨⟨t220, t221, t222⟩, A200, H⟩ := H
                      replace H : ((rows_Of.f k3 t195 (⟨#[122]⟩ : ByteArray)).bind fun t225 => (if t197 = 0 then ((cubitlaw7_alike.f k3 t195 (([(⟨2, (([(⟨#[120]⟩ : ByteArray), (⟨#[121, 35, 122]⟩ : ByteArray)] : List ByteArray))⟩ : S36), (⟨5, (([(⟨#[122]⟩ : ByteArray)] : List ByteArray))⟩ : S36)] : List (S36)))).bind fun t237 => (if t237 = true then (if t201 = 2 then (if t202 = 2 then (if t206 = 2 then (if t207 = 2 then (if t211 = 1 then (if t212 = 2 then (if t216 = 2001 then (if t217 = 11 then (if t221 = 0 then (if t222 = 11 then (if (t225.length : Int) = 1 then (if 0 < (t225.length : Int) then (if ((rd_T31 t225 0).f0) = 5 then ((rows_Of.f k3 t195 (⟨#[113]⟩ : ByteArray)).bind fun t239 => (if (t239.length : Int) = 0 then (some true) else (some false))) else (some false)) else (none)) else (some false)) else (some false)) else (some false)) else (some false)) else (some false)) else (some false)) else (some false)) else (some false)) else (some false)) else (some false)) else (some false)) else (some false))) else (some false))) = some true := H
                      have A20 := Aside0.mk A200
                      clear A200
                      replace H := Option.bind_eq_some_iff.mp H
                      obtain ⟨t225, A210, H⟩ := H
                      replace H : (if t197 = 0 then ((cubitlaw7_alike.f k3 t195 (([(⟨2, (([(⟨#[120]⟩ : ByteArray), (⟨#[121, 35, 122]⟩ : ByteArray)] : List ByteArray))⟩ : S36), (⟨5, (([(⟨#[122]⟩ : ByteArray)] : List ByteArray))⟩ : S36)] : List (S36)))).bind fun t237 => (if t237 = true then (if t201 = 2 then (if t202 = 2 then (if t206 = 2 then (if t207 = 2 then (if t211 = 1 then (if t212 = 2 then (if t216 = 2001 then (if t217 = 11 then (if t221 = 0 then (if t222 = 11 then (if (t225.length : Int) = 1 then (if 0 < (t225.length : Int) then (if ((rd_T31 t225 0).f0) = 5 then ((rows_Of.f k3 t195 (⟨#[113]⟩ : ByteArray)).bind fun t239 => (if (t239.length : Int) = 0 then (some true) else (some false))) else (some false)) else (none)) else (some false)) else (some false)) else (some false)) else (some false)) else (some false)) else (some false)) else (some false)) else (some false)) else (some false)) else (some false)) else (some false)) else (some false))) else (some false)) = some true := H
                      have A21 := Aside0.mk A210
                      clear A210
                      by_cases c22 : t197 = 0
                      · rw [if_pos c22] at H
                        have c22b0 : (t197 == 0) = true := beq_iff_eq.mpr c22
                        have c22b1 : (t197 != 0) = false := bne_eq_false_iff_eq.mpr c22
                        clear c22
                        obtain ⟨y228, hy228⟩ : ∃ y_ : List ByteArray, y_ = (([(⟨#[120]⟩ : ByteArray), (⟨#[121, 35, 122]⟩ : ByteArray)] : List ByteArray)) := ⟨_, rfl⟩
                        replace H : ((cubitlaw7_alike.f k3 t195 (([(⟨2, y228⟩ : S36), (⟨5, (([(⟨#[122]⟩ : ByteArray)] : List ByteArray))⟩ : S36)] : List (S36)))).bind fun t237 => (if t237 = true then (if t201 = 2 then (if t202 = 2 then (if t206 = 2 then (if t207 = 2 then (if t211 = 1 then (if t212 = 2 then (if t216 = 2001 then (if t217 = 11 then (if t221 = 0 then (if t222 = 11 then (if (t225.length : Int) = 1 then (if 0 < (t225.length : Int) then (if ((rd_T31 t225 0).f0) = 5 then ((rows_Of.f k3 t195 (⟨#[113]⟩ : ByteArray)).bind fun t239 => (if (t239.length : Int) = 0 then (some true) else (some false))) else (some false)) else (none)) else (some false)) else (some false)) else (some false)) else (some false)) else (some false)) else (some false)) else (some false)) else (some false)) else (some false)) else (some false)) else (some false)) else (some false))) = some true := by first | (rw [hy228]; with_reducible exact H) | (have H2_ := (Option.bind_some _ _).symm.trans H; rw [hy228]; with_reducible exact H2_) | (have H2_ := (Option.bind_some _ _).symm.trans H; with_reducible exact H2_) | with_reducible exact H | (rw [hy228]; exact H) | exact H
                        have Ny228 := Aside0.mk hy228
                        clear hy228
                        obtain ⟨y231, hy231⟩ : ∃ y_ : List ByteArray, y_ = (([(⟨#[122]⟩ : ByteArray)] : List ByteArray)) := ⟨_, rfl⟩
                        replace H : ((cubitlaw7_alike.f k3 t195 (([(⟨2, y228⟩ : S36), (⟨5, y231⟩ : S36)] : List (S36)))).bind fun t237 => (if t237 = true then (if t201 = 2 then (if t202 = 2 then (if t206 = 2 then (if t207 = 2 then (if t211 = 1 then (if t212 = 2 then (if t216 = 2001 then (if t217 = 11 then (if t221 = 0 then (if t222 = 11 then (if (t225.length : Int) = 1 then (if 0 < (t225.length : Int) then (if ((rd_T31 t225 0).f0) = 5 then ((rows_Of.f k3 t195 (⟨#[113]⟩ : ByteArray)).bind fun t239 => (if (t239.length : Int) = 0 then (some true) else (some false))) else (some false)) else (none)) else (some false)) else (some false)) else (some false)) else (some false)) else (some false)) else (some false)) else (some false)) else (some false)) else (some false)) else (some false)) else (some false)) else (some false))) = some true := by first | (rw [hy231]; with_reducible exact H) | (have H2_ := (Option.bind_some _ _).symm.trans H; rw [hy231]; with_reducible exact H2_) | (have H2_ := (Option.bind_some _ _).symm.trans H; with_reducible exact H2_) | with_reducible exact H | (rw [hy231]; exact H) | exact H
                        have Ny231 := Aside0.mk hy231
                        clear hy231
                        obtain ⟨y234, hy234⟩ : ∃ y_ : List (S36), y_ = (([(⟨2, y228⟩ : S36), (⟨5, y231⟩ : S36)] : List (S36))) := ⟨_, rfl⟩
                        replace H : ((cubitlaw7_alike.f k3 t195 y234).bind fun t237 => (if t237 = true then (if t201 = 2 then (if t202 = 2 then (if t206 = 2 then (if t207 = 2 then (if t211 = 1 then (if t212 = 2 then (if t216 = 2001 then (if t217 = 11 then (if t221 = 0 then (if t222 = 11 then (if (t225.length : Int) = 1 then (if 0 < (t225.length : Int) then (if ((rd_T31 t225 0).f0) = 5 then ((rows_Of.f k3 t195 (⟨#[113]⟩ : ByteArray)).bind fun t239 => (if (t239.length : Int) = 0 then (some true) else (some false))) else (some false)) else (none)) else (some false)) else (some false)) else (some false)) else (some false)) else (some false)) else (some false)) else (some false)) else (some false)) else (some false)) else (some false)) else (some false)) else (some false))) = some true := by first | (rw [hy234]; with_reducible exact H) | (have H2_ := (Option.bind_some _ _).symm.trans H; rw [hy234]; with_reducible exact H2_) | (have H2_ := (Option.bind_some _ _).symm.trans H; with_reducible exact H2_) | with_reducible exact H | (rw [hy234]; exact H) | exact H
                        have Ny234 := Aside0.mk hy234
                        clear hy234
                        replace H := Option.bind_eq_some_iff.mp H
                        obtain ⟨t237, A230, H⟩ := H
                        replace H : (if t237 = true then (if t201 = 2 then (if t202 = 2 then (if t206 = 2 then (if t207 = 2 then (if t211 = 1 then (if t212 = 2 then (if t216 = 2001 then (if t217 = 11 then (if t221 = 0 then (if t222 = 11 then (if (t225.length : Int) = 1 then (if 0 < (t225.length : Int) then (if ((rd_T31 t225 0).f0) = 5 then ((rows_Of.f k3 t195 (⟨#[113]⟩ : ByteArray)).bind fun t239 => (if (t239.length : Int) = 0 then (some true) else (some false))) else (some false)) else (none)) else (some false)) else (some false)) else (some false)) else (some false)) else (some false)) else (some false)) else (some false)) else (some false)) else (some false)) else (some false)) else (some false)) else (some false)) = some true := H
                        have A23 := Aside0.mk A230
                        clear A230
                        by_cases c24 : t237 = true
                        · subst c24
                          have H1 : (if t201 = 2 then (if t202 = 2 then (if t206 = 2 then (if t207 = 2 then (if t211 = 1 then (if t212 = 2 then (if t216 = 2001 then (if t217 = 11 then (if t221 = 0 then (if t222 = 11 then (if (t225.length : Int) = 1 then (if 0 < (t225.length : Int) then (if ((rd_T31 t225 0).f0) = 5 then ((rows_Of.f k3 t195 (⟨#[113]⟩ : ByteArray)).bind fun t239 => (if (t239.length : Int) = 0 then (some true) else (some false))) else (some false)) else (none)) else (some false)) else (some false)) else (some false)) else (some false)) else (some false)) else (some false)) else (some false)) else (some false)) else (some false)) else (some false)) else (some false)) = some true := by (rw [if_pos rfl] at H); first | done | exact H
                          clear H
                          have H := H1
                          clear H1
                          by_cases c25 : t201 = 2
                          · rw [if_pos c25] at H
                            have c25b0 : (t201 == 2) = true := beq_iff_eq.mpr c25
                            have c25b1 : (t201 != 2) = false := bne_eq_false_iff_eq.mpr c25
                            clear c25
                            by_cases c26 : t202 = 2
                            · rw [if_pos c26] at H
                              have c26b0 : (t202 == 2) = true := beq_iff_eq.mpr c26
                              have c26b1 : (t202 != 2) = false := bne_eq_false_iff_eq.mpr c26
                              clear c26
                              by_cases c27 : t206 = 2
                              · rw [if_pos c27] at H
                                have c27b0 : (t206 == 2) = true := beq_iff_eq.mpr c27
                                have c27b1 : (t206 != 2) = false := bne_eq_false_iff_eq.mpr c27
                                clear c27
                                by_cases c28 : t207 = 2
                                · rw [if_pos c28] at H
                                  have c28b0 : (t207 == 2) = true := beq_iff_eq.mpr c28
                                  have c28b1 : (t207 != 2) = false := bne_eq_false_iff_eq.mpr c28
                                  clear c28
                                  by_cases c29 : t211 = 1
                                  · rw [if_pos c29] at H
                                    have c29b0 : (t211 == 1) = true := beq_iff_eq.mpr c29
                                    have c29b1 : (t211 != 1) = false := bne_eq_false_iff_eq.mpr c29
                                    clear c29
                                    by_cases c30 : t212 = 2
                                    · rw [if_pos c30] at H
                                      have c30b0 : (t212 == 2) = true := beq_iff_eq.mpr c30
                                      have c30b1 : (t212 != 2) = false := bne_eq_false_iff_eq.mpr c30
                                      clear c30
                                      by_cases c31 : t216 = 2001
                                      · rw [if_pos c31] at H
                                        have c31b0 : (t216 == 2001) = true := beq_iff_eq.mpr c31
                                        have c31b1 : (t216 != 2001) = false := bne_eq_false_iff_eq.mpr c31
                                        clear c31
                                        by_cases c32 : t217 = 11
                                        · rw [if_pos c32] at H
                                          have c32b0 : (t217 == 11) = true := beq_iff_eq.mpr c32
                                          have c32b1 : (t217 != 11) = false := bne_eq_false_iff_eq.mpr c32
                                          clear c32
                                          by_cases c33 : t221 = 0
                                          · rw [if_pos c33] at H
                                            have c33b0 : (t221 == 0) = true := beq_iff_eq.mpr c33
                                            have c33b1 : (t221 != 0) = false := bne_eq_false_iff_eq.mpr c33
                                            clear c33
                                            by_cases c34 : t222 = 11
                                            · rw [if_pos c34] at H
                                              have c34b0 : (t222 == 11) = true := beq_iff_eq.mpr c34
                                              have c34b1 : (t222 != 11) = false := bne_eq_false_iff_eq.mpr c34
                                              clear c34
                                              by_cases c35 : (t225.length : Int) = 1
                                              · rw [if_pos c35] at H
                                                have c35b0 : ((t225.length : Int) == 1) = true := beq_iff_eq.mpr c35
                                                have c35b1 : ((t225.length : Int) != 1) = false := bne_eq_false_iff_eq.mpr c35
                                                clear c35
                                                by_cases c36 : 0 < (t225.length : Int)
                                                · rw [if_pos c36] at H
                                                  have c36b0 : decide (0 < (t225.length : Int)) = true := decide_eq_true c36
                                                  have c36b1 : decide (0 < t225.length) = true := decide_eq_true (by omega)
                                                  clear c36
                                                  by_cases c37 : ((rd_T31 t225 0).f0) = 5
                                                  · rw [if_pos c37] at H
                                                    have c37b0 : (((rd_T31 t225 0).f0) == 5) = true := beq_iff_eq.mpr c37
                                                    have c37b1 : (((rd_T31 t225 0).f0) != 5) = false := bne_eq_false_iff_eq.mpr c37
                                                    clear c37
                                                    replace H := Option.bind_eq_some_iff.mp H
                                                    obtain ⟨t239, A380, H⟩ := H
                                                    replace H : (if (t239.length : Int) = 0 then (some true) else (some false)) = some true := H
                                                    have A38 := Aside0.mk A380
                                                    clear A380
                                                    by_cases c39 : (t239.length : Int) = 0
                                                    · rw [if_pos c39] at H
                                                      have c39b0 : ((t239.length : Int) == 0) = true := beq_iff_eq.mpr c39
                                                      have c39b1 : ((t239.length : Int) != 0) = false := bne_eq_false_iff_eq.mpr c39
                                                      clear c39
                                                      clear H
                                                      go_wp2_with (first | ((with_reducible refine gate_callee (f := 20) rfl ?_); refine goesL_ (some 75) rfl rfl Tryd.func20 (by kernel_rfl) rfl #[.string x20_3] rfl (by (try simp only [List.map_toArray, List.map_cons, List.map_nil]); first | done | rfl | (simp only [List.length_drop, List.length_take]; rfl)) ?_; (with_reducible refine (rows_Parse.calls k3 x20_3 t220 t221 t222 _ A20.out ?side1).mono ?_); (case side1 => exact Glob.below HG.out (by repeat (first | (with_reducible first | exact HB.out | apply below_alloc | apply pw_below_drewN | apply below_drew1) | exact HB.out))); rintro e w40 ⟨v223, rfl, ho0, hb⟩; refine ⟨_, rfl, ?_⟩; have n0_ := Aside0.mk (Kd.N_elder' (by (with_reducible repeat (first | apply Kd.N_alloc | apply Kd.N_drewN | apply Kd.N_drew)); exact HO_1.out) (by first | exact Kd.N_base ho0 | exact Kd.S_base ho0) hb); have n1_ := Aside0.mk (Kd.N_lower (Kd.N_mono (ok' := fun k_ => some k_ ≠ (v198 : Value).ownBlock) (Kd.S_N (Kd.S_bound ho0)) (fun k_ hk_ => (Kd.fresh' (Kd.N_lt (by (with_reducible repeat (first | apply Kd.N_alloc | apply Kd.N_drewN | apply Kd.N_drew)); exact HO_1.out)) k_ hk_.2.1))) (below_size (by repeat (first | (with_reducible first | exact HB.out | apply below_alloc | apply pw_below_drewN | apply below_drew1) | exact HB.out)))); have n2_ := Aside0.mk (below_step (by repeat (first | (with_reducible first | exact HB.out | apply below_alloc | apply pw_below_drewN | apply below_drew1) | exact HB.out)) hb); clear HO_1; clear HB; have HO_1 := n0_; have HO224 := n1_; have HB := n2_; clear n0_ n1_ n2_; (try clear hb); (try clear hb2); (try clear hk); (try clear hi); (try clear ho0); obtain ⟨Ao41, co41, eo41⟩ := Kd.N_slice HO_1.out; subst eo41) | ((with_reducible refine gate_callee (f := 23) rfl ?_); refine goesL_ (some 80) rfl rfl Tryd.func23 (by kernel_rfl) rfl #[.slice Ao41 t195.length co41, .string (⟨#[122]⟩ : ByteArray)] rfl (by (try simp only [List.map_toArray, List.map_cons, List.map_nil]); first | done | rfl | (simp only [List.length_drop, List.length_take]; rfl)) ?_; (with_reducible refine (rows_Of.calls k3 _ _ t195 (⟨#[122]⟩ : ByteArray) t225 _ ?side1 ?side2 A21.out ?side3).mono ?_); (case side1 => repeat (first | exact (Kd.N_reads' HO_1.out).2.2 | (with_reducible refine Kd.C_alloc ?_ _) | (with_reducible refine Kd.C_drewN ?_ _) | (with_reducible refine Kd.C_drew ?_))); (case side2 => exact (Kd.N_reads' HO_1.out).2.1); (case side3 => exact Glob.below HG.out (by repeat (first | (with_reducible first | exact HB.out | apply below_alloc | apply pw_below_drewN | apply below_drew1) | exact HB.out))); rintro e w42 ⟨v226, rfl, ho0, hb⟩; refine ⟨_, rfl, ?_⟩; have n0_ := Aside0.mk (Kd.N_elder' (by (with_reducible repeat (first | apply Kd.N_alloc | apply Kd.N_drewN | apply Kd.N_drew)); exact HO_1.out) (by first | exact Kd.N_base ho0 | exact Kd.S_base ho0) hb); have n1_ := Aside0.mk (Kd.N_elder' (by (with_reducible repeat (first | apply Kd.N_alloc | apply Kd.N_drewN | apply Kd.N_drew)); exact HO224.out) (by first | exact Kd.N_base ho0 | exact Kd.S_base ho0) hb); have n2_ := Aside0.mk (Kd.N_lower (Kd.N_mono (ok' := fun k_ => some k_ ≠ (.slice Ao41 t195.length co41 : Value).ownBlock ∧ some k_ ≠ (v223 : Value).ownBlock) (Kd.S_N (Kd.S_bound ho0)) (fun k_ hk_ => ⟨(Kd.fresh' (Kd.N_lt (by (with_reducible repeat (first | apply Kd.N_alloc | apply Kd.N_drewN | apply Kd.N_drew)); exact HO_1.out)) k_ hk_.2.1), (Kd.fresh' (Kd.N_lt (by (with_reducible repeat (first | apply Kd.N_alloc | apply Kd.N_drewN | apply Kd.N_drew)); exact HO224.out)) k_ hk_.2.1)⟩)) (below_size (by repeat (first | (with_reducible first | exact HB.out | apply below_alloc | apply pw_below_drewN | apply below_drew1) | exact HB.out)))); have n3_ := Aside0.mk (below_step (by repeat (first | (with_reducible first | exact HB.out | apply below_alloc | apply pw_below_drewN | apply below_drew1) | exact HB.out)) hb); clear HO_1; clear HO224; clear HB; have HO_1 := n0_; have HO224 := n1_; have HO227 := n2_; have HB := n3_; clear n0_ n1_ n2_ n3_; (try clear hb); (try clear hb2); (try clear hk); (try clear hi); (try clear ho0)) | ((with_reducible refine gate_dst (N := 85) rfl ?_); (try (refine gate_guard (by rfl) ?_; dsimp only)); refine Kd.R_lit Kd.string _ 9 ?hg (N := 85) ?hd (xs := ([(⟨#[120]⟩ : ByteArray), (⟨#[121, 35, 122]⟩ : ByteArray)] : List ByteArray)) (inner := [.string (⟨#[120]⟩ : ByteArray), .string (⟨#[121, 35, 122]⟩ : ByteArray)]) (ok := fun _ => True) (okp := fun _ => True) ?hr ?hp (fun _ hk => hk) trivial (Below.refl _ _) (Nat.le_refl _) (by simp) ?_; (case hd => rfl); (case hg => rfl); (case hr => first | (go_simp; done) | (go_simp; rfl)); (case hp => exact (Reps.one (show Kd.M Kd.string _ _ _ (⟨#[120]⟩ : ByteArray) [.string (⟨#[120]⟩ : ByteArray)] from rfl) (Reps.one (show Kd.M Kd.string _ _ _ (⟨#[121, 35, 122]⟩ : ByteArray) [.string (⟨#[121, 35, 122]⟩ : ByteArray)] from rfl) (Reps.none _ _)))); intro v229 w43 ho44 hb hg_ hnew_; clear hg_ hnew_; (first | rw [← Ny228.out] at ho44 | (simp only [Int.reduceToNat] at ho44; rw [← Ny228.out] at ho44)); have n0_ := Aside0.mk (Kd.N_elder' (by (with_reducible repeat (first | apply Kd.N_alloc | apply Kd.N_drewN | apply Kd.N_drew)); exact HO_1.out) (Kd.R_base ho44) hb); have n1_ := Aside0.mk (Kd.N_elder' (by (with_reducible repeat (first | apply Kd.N_alloc | apply Kd.N_drewN | apply Kd.N_drew)); exact HO224.out) (Kd.R_base ho44) hb); have n2_ := Aside0.mk (Kd.N_elder' (by (with_reducible repeat (first | apply Kd.N_alloc | apply Kd.N_drewN | apply Kd.N_drew)); exact HO227.out) (Kd.R_base ho44) hb); have n3_ := Aside0.mk (Kd.R_lower ho44 (below_size (by repeat (first | (with_reducible first | exact HB.out | apply below_alloc | apply pw_below_drewN | apply below_drew1) | exact HB.out)))); have n4_ := Aside0.mk (below_step (by repeat (first | (with_reducible first | exact HB.out | apply below_alloc | apply pw_below_drewN | apply below_drew1) | exact HB.out)) hb); clear HO_1; clear HO224; clear HO227; clear HB; have HO_1 := n0_; have HO224 := n1_; have HO227 := n2_; have HO230 := n3_; have HB := n4_; clear n0_ n1_ n2_ n3_ n4_; clear hb ho44; obtain ⟨Ao45, co45, eo45⟩ := Kd.R_slice HO230.out; subst eo45) | ((with_reducible refine gate_dst (N := 87) rfl ?_); (try (refine gate_guard (by rfl) ?_; dsimp only)); refine Kd.R_lit Kd.string _ 9 ?hg (N := 87) ?hd (xs := ([(⟨#[122]⟩ : ByteArray)] : List ByteArray)) (inner := [.string (⟨#[122]⟩ : ByteArray)]) (ok := fun _ => True) (okp := fun _ => True) ?hr ?hp (fun _ hk => hk) trivial (Below.refl _ _) (Nat.le_refl _) (by simp) ?_; (case hd => rfl); (case hg => rfl); (case hr => first | (go_simp; done) | (go_simp; rfl)); (case hp => exact (Reps.one (show Kd.M Kd.string _ _ _ (⟨#[122]⟩ : ByteArray) [.string (⟨#[122]⟩ : ByteArray)] from rfl) (Reps.none _ _))); intro v232 w46 ho47 hb hg_ hnew_; clear hg_ hnew_; (first | rw [← Ny231.out] at ho47 | (simp only [Int.reduceToNat] at ho47; rw [← Ny231.out] at ho47)); have n0_ := Aside0.mk (Kd.N_elder' (by (with_reducible repeat (first | apply Kd.N_alloc | apply Kd.N_drewN | apply Kd.N_drew)); exact HO_1.out) (Kd.R_base ho47) hb); have n1_ := Aside0.mk (Kd.N_elder' (by (with_reducible repeat (first | apply Kd.N_alloc | apply Kd.N_drewN | apply Kd.N_drew)); exact HO224.out) (Kd.R_base ho47) hb); have n2_ := Aside0.mk (Kd.N_elder' (by (with_reducible repeat (first | apply Kd.N_alloc | apply Kd.N_drewN | apply Kd.N_drew)); exact HO227.out) (Kd.R_base ho47) hb); have n3_ := Aside0.mk (Kd.R_elder' (by (with_reducible repeat (first | apply Kd.R_alloc | apply Kd.R_drewN | apply Kd.R_drew)); exact HO230.out) (Kd.R_base ho47) hb); have n4_ := Aside0.mk (Kd.R_lower (Kd.R_new' ho47 (Kd.R_lt (by (with_reducible repeat (first | apply Kd.R_alloc | apply Kd.R_drewN | apply Kd.R_drew)); exact HO230.out))) (below_size (by repeat (first | (with_reducible first | exact HB.out | apply below_alloc | apply pw_below_drewN | apply below_drew1) | exact HB.out)))); have n5_ := Aside0.mk (below_step (by repeat (first | (with_reducible first | exact HB.out | apply below_alloc | apply pw_below_drewN | apply below_drew1) | exact HB.out)) hb); clear HO_1; clear HO224; clear HO227; clear HO230; clear HB; have HO_1 := n0_; have HO224 := n1_; have HO227 := n2_; have HO230 := n3_; have HO233 := n4_; have HB := n5_; clear n0_ n1_ n2_ n3_ n4_ n5_; clear hb ho47; obtain ⟨Ao48, co48, eo48⟩ := Kd.R_slice HO233.out; subst eo48) | ((with_reducible refine gate_dst (N := 89) rfl ?_); (try (refine gate_guard (by rfl) ?_; dsimp only)); refine Kd.N_lit k36 _ 36 ?hg (N' := 89) ?hd (xs := ([(⟨2, y228⟩ : S36), (⟨5, y231⟩ : S36)] : List (S36))) (inner := [.int .i64 2, .slice Ao45 y228.length co45, .int .i64 5, .slice Ao48 y231.length co48]) (ok := (fun k_ => some k_ ≠ (.slice Ao41 t195.length co41 : Value).ownBlock ∧ some k_ ≠ (v223 : Value).ownBlock ∧ some k_ ≠ (v226 : Value).ownBlock)) (okp := (fun k_ => some k_ ≠ (.slice Ao41 t195.length co41 : Value).ownBlock ∧ some k_ ≠ (v223 : Value).ownBlock ∧ some k_ ≠ (v226 : Value).ownBlock)) ?hr ?hp (fun _ hk => hk) ((show ∀ k_, w46.heap.size ≤ k_ → (fun k_ => some k_ ≠ (.slice Ao41 t195.length co41 : Value).ownBlock ∧ some k_ ≠ (v223 : Value).ownBlock ∧ some k_ ≠ (v226 : Value).ownBlock) k_ from fun k_ hk => ⟨Kd.fresh' (Kd.N_lt (by (with_reducible repeat (first | apply Kd.N_alloc | apply Kd.N_drewN | apply Kd.N_drew)); exact HO_1.out)) k_ hk, Kd.fresh' (Kd.N_lt (by (with_reducible repeat (first | apply Kd.N_alloc | apply Kd.N_drewN | apply Kd.N_drew)); exact HO224.out)) k_ hk, Kd.fresh' (Kd.N_lt (by (with_reducible repeat (first | apply Kd.N_alloc | apply Kd.N_drewN | apply Kd.N_drew)); exact HO227.out)) k_ hk⟩) _ (Nat.le_refl _)) (Below.refl _ _) (Nat.le_refl _) (by simp) ?_; (case hd => rfl); (case hg => rfl); (case hr => first | (go_simp; done) | (go_simp; rfl)); (case hp => exact (Reps.c2 (show Kd.FK k36 _ _ (⟨2, y228⟩ : S36) [.int .i64 2, .slice Ao45 y228.length co45] from (k36_mkF _ _ (⟨2, y228⟩ : S36) (Kd.R_reads' (Kd.R_mono (ok' := (fun k_ => some k_ ≠ (.slice Ao41 t195.length co41 : Value).ownBlock ∧ some k_ ≠ (v223 : Value).ownBlock ∧ some k_ ≠ (v226 : Value).ownBlock)) (Kd.R_apart' (Kd.R_apart' (Kd.R_apart' (HO230.out) (Kd.N_typed HO_1.out) (by decide)) (Kd.N_typed HO224.out) (by decide)) (Kd.N_typed HO227.out) (by decide)) (fun k_ hk => ⟨hk.1.1.2, ⟨hk.1.2, hk.2⟩⟩))).2.1 (Kd.R_F (Kd.R_mono (ok' := (fun k_ => some k_ ≠ (.slice Ao41 t195.length co41 : Value).ownBlock ∧ some k_ ≠ (v223 : Value).ownBlock ∧ some k_ ≠ (v226 : Value).ownBlock)) (Kd.R_apart' (Kd.R_apart' (Kd.R_apart' (HO230.out) (Kd.N_typed HO_1.out) (by decide)) (Kd.N_typed HO224.out) (by decide)) (Kd.N_typed HO227.out) (by decide)) (fun k_ hk => ⟨hk.1.1.2, ⟨hk.1.2, hk.2⟩⟩))))) (Reps.c2 (show Kd.FK k36 _ _ (⟨5, y231⟩ : S36) [.int .i64 5, .slice Ao48 y231.length co48] from (k36_mkF _ _ (⟨5, y231⟩ : S36) (Kd.R_reads' (Kd.R_mono (ok' := (fun k_ => some k_ ≠ (.slice Ao41 t195.length co41 : Value).ownBlock ∧ some k_ ≠ (v223 : Value).ownBlock ∧ some k_ ≠ (v226 : Value).ownBlock)) (Kd.R_apart' (Kd.R_apart' (Kd.R_apart' (HO233.out) (Kd.N_typed HO_1.out) (by decide)) (Kd.N_typed HO224.out) (by decide)) (Kd.N_typed HO227.out) (by decide)) (fun k_ hk => ⟨hk.1.1.2, ⟨hk.1.2, hk.2⟩⟩))).2.1 (Kd.R_F (Kd.R_mono (ok' := (fun k_ => some k_ ≠ (.slice Ao41 t195.length co41 : Value).ownBlock ∧ some k_ ≠ (v223 : Value).ownBlock ∧ some k_ ≠ (v226 : Value).ownBlock)) (Kd.R_apart' (Kd.R_apart' (Kd.R_apart' (HO233.out) (Kd.N_typed HO_1.out) (by decide)) (Kd.N_typed HO224.out) (by decide)) (Kd.N_typed HO227.out) (by decide)) (fun k_ hk => ⟨hk.1.1.2, ⟨hk.1.2, hk.2⟩⟩))))) (Reps.none _ _)))); intro v235 w49 ho50 hb hg_ hnew_; clear hg_ hnew_; (first | rw [← Ny234.out] at ho50 | (simp only [Int.reduceToNat] at ho50; rw [← Ny234.out] at ho50)); have n0_ := Aside0.mk (Kd.N_elder' (by (with_reducible repeat (first | apply Kd.N_alloc | apply Kd.N_drewN | apply Kd.N_drew)); exact HO_1.out) (by first | exact Kd.N_base ho50 | exact Kd.S_base ho50) hb); have n1_ := Aside0.mk (Kd.N_elder' (by (with_reducible repeat (first | apply Kd.N_alloc | apply Kd.N_drewN | apply Kd.N_drew)); exact HO224.out) (by first | exact Kd.N_base ho50 | exact Kd.S_base ho50) hb); have n2_ := Aside0.mk (Kd.N_elder' (by (with_reducible repeat (first | apply Kd.N_alloc | apply Kd.N_drewN | apply Kd.N_drew)); exact HO227.out) (by first | exact Kd.N_base ho50 | exact Kd.S_base ho50) hb); have n3_ := Aside0.mk (Kd.N_lower ho50 (below_size (by repeat (first | (with_reducible first | exact HB.out | apply below_alloc | apply pw_below_drewN | apply below_drew1) | exact HB.out)))); have n4_ := Aside0.mk (below_step (by repeat (first | (with_reducible first | exact HB.out | apply below_alloc | apply pw_below_drewN | apply below_drew1) | exact HB.out)) hb); clear HO_1; clear HO224; clear HO227; clear HB; clear HO230; clear HO233; have HO_1 := n0_; have HO224 := n1_; have HO227 := n2_; have HO236 := n3_; have HB := n4_; clear n0_ n1_ n2_ n3_ n4_; clear hb ho50; obtain ⟨Ao51, co51, eo51⟩ := Kd.N_slice HO236.out; subst eo51) | (go_at_call 24; (with_reducible refine (cubitlaw7_alike.calls k3 _ _ t195 _ _ y234 true _ ?side1 ?side2 ?side3 ?side4 A23.out ?side5).mono ?_); (case side1 => repeat (first | exact (Kd.N_reads' HO_1.out).2.2 | (with_reducible refine Kd.C_alloc ?_ _) | (with_reducible refine Kd.C_drewN ?_ _) | (with_reducible refine Kd.C_drew ?_))); (case side2 => exact (Kd.N_reads' HO_1.out).2.1); (case side3 => repeat (first | exact (Kd.N_reads' HO236.out).2.2 | (with_reducible refine Kd.C_alloc ?_ _) | (with_reducible refine Kd.C_drewN ?_ _) | (with_reducible refine Kd.C_drew ?_))); (case side4 => exact (Kd.N_reads' HO236.out).2.1); (case side5 => exact Glob.below HG.out (by repeat (first | (with_reducible first | exact HB.out | apply below_alloc | apply pw_below_drewN | apply below_drew1) | exact HB.out))); rintro e w' ⟨rfl, ⟨nd, rfl⟩⟩; obtain ⟨Ao52, co52, eo52⟩ := Kd.N_slice HO227.out; subst eo52; have p238 : 0 ≤ (0 : Int) := (by omega); have q238 : 0 < (t225.length : Int) := of_decide_eq_true (by first | (with_reducible assumption) | assumption); obtain ⟨ad238, A238_1, c238_1, e238, hx238_0, hx238_1, hl238_1, hi238_1⟩ := at_T31 (Kd.N_reads' HO227.out).2.2 0 p238 q238; cases e238; obtain ⟨ce238, hce238, hMe238, hcc238⟩ := Kd.N_get HO227.out z31 0 p238 (by first | exact q238 | exact of_decide_eq_true (by first | (with_reducible assumption) | assumption) | (have e_ := (Kd.N_reads' HO227.out).1; omega)); obtain ⟨ua238_1, uc238_1, rfl, ul238_1, ge238_1⟩ := k31_openF hMe238; have hv238_1 := hcc238 1 _ rfl; rw [add_field _ _ 1 (by omega)] at hv238_1; replace hv238_1 := Option.some.inj (hv238_1.symm.trans hx238_1); injection hv238_1 with hva_ hvn_ hvc_; rw [hva_] at ge238_1; rw [hvc_] at ul238_1; have HL238_1 := Aside0.mk (show Kd.V Kd.string 9 _ w.heap.size _ _ ((rd_T31 t225 0).f1) from Kd.V_mk ul238_1 ge238_1); clear hva_ hvn_ hvc_ ge238_1 ul238_1; clear hcc238 hce238; have qi238 : (0 < t225.length) = True := eq_true (by omega); (try rw [show ((0 : Int)).toNat = 0 from rfl] at hx238_0); (try rw [show 0 * 2 = 0 from rfl] at hx238_0); (try rw [Addr.add_zero'] at hx238_0); (try rw [show ((0 : Int)).toNat = 0 from rfl] at hx238_1); (try rw [show 0 * 2 = 0 from rfl] at hx238_1); (try rw [Addr.add_zero'] at hx238_1); have HR238_1 := Aside0.mk hi238_1; have HC238_1 := Aside0.mk hl238_1; clear hi238_1 hl238_1; replace p238 := eq_true p238; replace q238 := eq_true q238) | (go_at_call 23; (with_reducible refine (rows_Of.calls k3 _ _ t195 (⟨#[113]⟩ : ByteArray) t239 _ ?side1 ?side2 A38.out ?side3).mono ?_); (case side1 => repeat (first | exact (Kd.N_reads' HO_1.out).2.2 | (with_reducible refine Kd.C_alloc ?_ _) | (with_reducible refine Kd.C_drewN ?_ _) | (with_reducible refine Kd.C_drew ?_))); (case side2 => exact (Kd.N_reads' HO_1.out).2.1); (case side3 => exact Glob.below HG.out (by repeat (first | (with_reducible first | exact HB.out | apply below_alloc | apply pw_below_drewN | apply below_drew1) | exact HB.out))); rintro e w53 ⟨v240, rfl, ho0, hb⟩; have n0_ := Aside0.mk (Kd.N_elder' (by (with_reducible repeat (first | apply Kd.N_alloc | apply Kd.N_drewN | apply Kd.N_drew)); exact HO_1.out) (by first | exact Kd.N_base ho0 | exact Kd.S_base ho0) hb); have n1_ := Aside0.mk (Kd.N_elder' (by (with_reducible repeat (first | apply Kd.N_alloc | apply Kd.N_drewN | apply Kd.N_drew)); exact HO224.out) (by first | exact Kd.N_base ho0 | exact Kd.S_base ho0) hb); have n2_ := Aside0.mk (Kd.N_elder' (by (with_reducible repeat (first | apply Kd.N_alloc | apply Kd.N_drewN | apply Kd.N_drew)); exact HO227.out) (by first | exact Kd.N_base ho0 | exact Kd.S_base ho0) hb); have n3_ := Aside0.mk (Kd.N_elder' (by (with_reducible repeat (first | apply Kd.N_alloc | apply Kd.N_drewN | apply Kd.N_drew)); exact HO236.out) (by first | exact Kd.N_base ho0 | exact Kd.S_base ho0) hb); have n4_ := Aside0.mk (Kd.V_elder' (by (with_reducible repeat (first | apply Kd.V_alloc | apply Kd.V_drewN | apply Kd.V_drew)); exact HL238_1.out) (by first | exact Kd.N_base ho0 | exact Kd.S_base ho0) hb); have n5_ := Aside0.mk (Kd.N_lower (Kd.N_mono (ok' := fun k_ => some k_ ≠ (.slice Ao41 t195.length co41 : Value).ownBlock ∧ some k_ ≠ (v223 : Value).ownBlock ∧ some k_ ≠ (.slice (some ad238) t225.length co52 : Value).ownBlock ∧ some k_ ≠ (.slice Ao51 y234.length co51 : Value).ownBlock) (Kd.S_N (Kd.S_bound ho0)) (fun k_ hk_ => ⟨(Kd.fresh' (Kd.N_lt (by (with_reducible repeat (first | apply Kd.N_alloc | apply Kd.N_drewN | apply Kd.N_drew)); exact HO_1.out)) k_ hk_.2.1), (Kd.fresh' (Kd.N_lt (by (with_reducible repeat (first | apply Kd.N_alloc | apply Kd.N_drewN | apply Kd.N_drew)); exact HO224.out)) k_ hk_.2.1), (Kd.fresh' (Kd.N_lt (by (with_reducible repeat (first | apply Kd.N_alloc | apply Kd.N_drewN | apply Kd.N_drew)); exact HO227.out)) k_ hk_.2.1), (Kd.fresh' (Kd.N_lt (by (with_reducible repeat (first | apply Kd.N_alloc | apply Kd.N_drewN | apply Kd.N_drew)); exact HO236.out)) k_ hk_.2.1)⟩)) (below_size (by repeat (first | (with_reducible first | exact HB.out | apply below_alloc | apply pw_below_drewN | apply below_drew1) | exact HB.out)))); have n6_ := Aside0.mk (Kd.C_below (by repeat (first | (with_reducible exact HR238_1.out) | (with_reducible refine Kd.C_alloc ?_ _) | (with_reducible refine Kd.C_drewN ?_ _) | (with_reducible refine Kd.C_drew ?_) | exact HR238_1.out)) hb); have n7_ := Aside0.mk (below_step (by repeat (first | (with_reducible first | exact HB.out | apply below_alloc | apply pw_below_drewN | apply below_drew1) | exact HB.out)) hb); clear HO_1; clear HO224; clear HO227; clear HO236; clear HL238_1; clear HR238_1; clear HB; have HO_1 := n0_; have HO224 := n1_; have HO227 := n2_; have HO236 := n3_; have HL238_1 := n4_; have HO241 := n5_; have HR238_1 := n6_; have HB := n7_; clear n0_ n1_ n2_ n3_ n4_ n5_ n6_ n7_; (try clear hb); (try clear hb2); (try clear hk); (try clear hi); (try clear ho0); obtain ⟨Ao54, co54, eo54⟩ := Kd.N_slice HO241.out; subst eo54))
                                                      go_ret
                                                      exact ⟨by first | rfl | (simp [errW_none, errW_some] <;> rfl) | (simp [*, errW_none, errW_some] <;> rfl), by repeat (first | (with_reducible first | exact HB.out | apply below_alloc | apply pw_below_drewN | apply below_drew1) | exact HB.out)⟩
                                                    · rw [if_neg c39] at H
                                                      have c39b0 : ((t239.length : Int) == 0) = false := beq_eq_false_iff_ne.mpr c39
                                                      have c39b1 : ((t239.length : Int) != 0) = true := bne_iff_ne.mpr c39
                                                      have c39b2 : ¬ (t239 = []) := fun h_ => c39 (by rw [h_]; rfl)
                                                      exact absurd H (by simp)
                                                  · rw [if_neg c37] at H
                                                    have c37b0 : (((rd_T31 t225 0).f0) == 5) = false := beq_eq_false_iff_ne.mpr c37
                                                    have c37b1 : (((rd_T31 t225 0).f0) != 5) = true := bne_iff_ne.mpr c37
                                                    exact absurd H (by simp)
                                                · rw [if_neg c36] at H
                                                  exact absurd H (by simp)
                                              · rw [if_neg c35] at H
                                                have c35b0 : ((t225.length : Int) == 1) = false := beq_eq_false_iff_ne.mpr c35
                                                have c35b1 : ((t225.length : Int) != 1) = true := bne_iff_ne.mpr c35
                                                exact absurd H (by simp)
                                            · rw [if_neg c34] at H
                                              have c34b0 : (t222 == 11) = false := beq_eq_false_iff_ne.mpr c34
                                              have c34b1 : (t222 != 11) = true := bne_iff_ne.mpr c34
                                              exact absurd H (by simp)
                                          · rw [if_neg c33] at H
                                            have c33b0 : (t221 == 0) = false := beq_eq_false_iff_ne.mpr c33
                                            have c33b1 : (t221 != 0) = true := bne_iff_ne.mpr c33
                                            exact absurd H (by simp)
                                        · rw [if_neg c32] at H
                                          have c32b0 : (t217 == 11) = false := beq_eq_false_iff_ne.mpr c32
                                          have c32b1 : (t217 != 11) = true := bne_iff_ne.mpr c32
                                          exact absurd H (by simp)
                                      · rw [if_neg c31] at H
                                        have c31b0 : (t216 == 2001) = false := beq_eq_false_iff_ne.mpr c31
                                        have c31b1 : (t216 != 2001) = true := bne_iff_ne.mpr c31
                                        exact absurd H (by simp)
                                    · rw [if_neg c30] at H
                                      have c30b0 : (t212 == 2) = false := beq_eq_false_iff_ne.mpr c30
                                      have c30b1 : (t212 != 2) = true := bne_iff_ne.mpr c30
                                      exact absurd H (by simp)
                                  · rw [if_neg c29] at H
                                    have c29b0 : (t211 == 1) = false := beq_eq_false_iff_ne.mpr c29
                                    have c29b1 : (t211 != 1) = true := bne_iff_ne.mpr c29
                                    exact absurd H (by simp)
                                · rw [if_neg c28] at H
                                  have c28b0 : (t207 == 2) = false := beq_eq_false_iff_ne.mpr c28
                                  have c28b1 : (t207 != 2) = true := bne_iff_ne.mpr c28
                                  exact absurd H (by simp)
                              · rw [if_neg c27] at H
                                have c27b0 : (t206 == 2) = false := beq_eq_false_iff_ne.mpr c27
                                have c27b1 : (t206 != 2) = true := bne_iff_ne.mpr c27
                                exact absurd H (by simp)
                            · rw [if_neg c26] at H
                              have c26b0 : (t202 == 2) = false := beq_eq_false_iff_ne.mpr c26
                              have c26b1 : (t202 != 2) = true := bne_iff_ne.mpr c26
                              exact absurd H (by simp)
                          · rw [if_neg c25] at H
                            have c25b0 : (t201 == 2) = false := beq_eq_false_iff_ne.mpr c25
                            have c25b1 : (t201 != 2) = true := bne_iff_ne.mpr c25
                            exact absurd H (by simp)
                        · replace c24 := Bool.eq_false_iff.mpr c24
                          subst c24
                          have H1 : (some false) = some true := by (rw [if_neg (show ¬ (false = true) by decide)] at H); first | done | exact H
                          clear H
                          have H := H1
                          clear H1
                          exact absurd H (by simp)
                      · rw [if_neg c22] at H
                        have c22b0 : (t197 == 0) = false := beq_eq_false_iff_ne.mpr c22
                        have c22b1 : (t197 != 0) = true := bne_iff_ne.mpr c22
                        exact absurd H (by simp)
  · replace c2 := Bool.eq_false_iff.mpr c2
    subst c2
    have H1 : (some false) = some true := by (rw [if_neg (show ¬ (false = true) by decide)] at H); first | done | exact H
    clear H
    have H := H1
    clear H1
    exact absurd H (by simp)

end Go.Proofs.YthefdpioaapomaaDoor.PA
