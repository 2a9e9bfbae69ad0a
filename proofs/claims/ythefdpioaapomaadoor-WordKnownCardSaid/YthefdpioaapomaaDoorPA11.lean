-- Written by this session's own run of a patched print program: see NOTES.md.
import Derived.Test.YthefdpioaapomaaDoorPA0
import Derived.Test.YthefdpioaapomaaDoorPA10
namespace Go.Proofs.YthefdpioaapomaaDoor.PA
open Go.RowKit Go.Proofs.YthefdpioaapomaaDoorW.PrintWords Go.Proofs.YthefdpioaapomaaDoorW.PrintLast Go.Proofs.YthefdpioaapomaaDoor.Ext Go.Proofs.YthefdpioaapomaaDoorW.PrintMore
attribute [local go_sem] max2_int min2_int max_two min_two max_three min_three max_four min_four   -- for this text's walks alone
set_option linter.unusedVariables false
set_option linter.unusedSimpArgs false

/-! ### cubitlaw6_WordKnown: function 7 -/
set_option maxRecDepth 100000 in
mutual
def cubitlaw6_WordKnown.l0 : Nat → List ByteArray → Int → Option (Bool)
  | 0, _, _ => none
  | k + 1, x1, x2 => if x2 < (x1.length : Int) then (if 0 ≤ x2 then ((word_Split.f k (rdOf ByteArray.empty x1 x2)).bind fun bt314 => (if bt314.2 = 2 then (cubitlaw6_WordKnown.l0 k x1 (wrap64 (x2 + 1))) else (some false))) else (none)) else (cubitlaw6_WordKnown.l1 k (⟨#[97]⟩ : ByteArray))
def cubitlaw6_WordKnown.l1 : Nat → ByteArray → Option (Bool)
  | 0, _ => none
  | k + 1, x5 => if (x5.size : Int) < 257 then (if x5.size + 2 ≤ 9223372036854775807 then (cubitlaw6_WordKnown.l1 k (x5 ++ (⟨#[45, 97]⟩ : ByteArray))) else (none)) else ((word_Split.f k x5).bind fun bt318 => ((word_Cut.f k (([(⟨#[97]⟩ : ByteArray), (⟨#[97, 110, 100]⟩ : ByteArray), (⟨#[97, 110, 100]⟩ : ByteArray), (⟨#[98]⟩ : ByteArray)] : List ByteArray)) (⟨#[97, 110, 100]⟩ : ByteArray)).bind fun t325 => (if bt318.2 = 11 then (if (t325.length : Int) = 3 then (if 0 < (t325.length : Int) then ((cubitlaw6_texts.f k (rd_L2 t325 0) (([(⟨#[97]⟩ : ByteArray)] : List ByteArray))).bind fun t332 => (if t332 = true then (if 1 < (t325.length : Int) then (if ((rd_L2 t325 1).length : Int) = 0 then (if 2 < (t325.length : Int) then ((cubitlaw6_texts.f k (rd_L2 t325 2) (([(⟨#[98]⟩ : ByteArray)] : List ByteArray))).bind fun t338 => (if t338 = true then ((word_Cut.f k ([] : List ByteArray) (⟨#[120]⟩ : ByteArray)).bind fun t339 => (if (t339.length : Int) = 1 then ((word_Number.f (⟨#[48]⟩ : ByteArray)).bind fun t342 => (if t342 = true then (some false) else ((word_Number.f (⟨#[48, 49]⟩ : ByteArray)).bind fun t343 => (if t343 = true then (some false) else ((word_Number.f (⟨#[]⟩ : ByteArray)).bind fun t344 => (if t344 = true then (some false) else ((word_Number.f (⟨#[49, 50, 51, 52, 53, 54, 55, 56, 57, 48, 49, 50, 51, 52, 53, 54, 55, 56, 57, 48, 49]⟩ : ByteArray)).bind fun t345 => (if t345 = true then (some false) else ((word_Number.f (⟨#[49, 50, 51, 52, 53, 54, 55, 56, 57, 48, 49, 50, 51, 52, 53, 54, 55, 56, 57, 48]⟩ : ByteArray)).bind fun t346 => (if t346 = true then ((word_Good.f (⟨#[97, 98, 99, 100, 101, 102, 103, 104, 105, 106, 107, 108, 109, 110, 111, 112, 113, 114, 115, 116, 117]⟩ : ByteArray)).bind fun t347 => (if t347 = true then (some false) else ((word_Join.f ([] : List ByteArray)).bind fun t348 => (if t348.toList = ([] : List UInt8) then (some true) else (some false))))) else (some false))))))))))) else (some false))) else (some false))) else (none)) else (some false)) else (none)) else (some false))) else (none)) else (some false)) else (some false))))
end
def cubitlaw6_WordKnown.f (k : Nat)  : Option (Bool) := (cubitlaw6_awake.f k).bind fun t309 => (if t309 = true then (cubitlaw6_WordKnown.l0 k (([(⟨#[]⟩ : ByteArray), (⟨#[45]⟩ : ByteArray), (⟨#[97, 45]⟩ : ByteArray), (⟨#[45, 97]⟩ : ByteArray), (⟨#[97, 45, 45, 98]⟩ : ByteArray), (⟨#[65]⟩ : ByteArray), (⟨#[97, 95, 98]⟩ : ByteArray), (⟨#[97, 98, 99, 100, 101, 102, 103, 104, 105, 106, 107, 108, 109, 110, 111, 112, 113, 114, 115, 116, 117]⟩ : ByteArray)] : List ByteArray)) 0) else (some false))
theorem cubitlaw6_WordKnown.mono_l : ∀ k, (∀ y0 y1, LeO (cubitlaw6_WordKnown.l0 k y0 y1) (cubitlaw6_WordKnown.l0 (k + 1) y0 y1)) ∧ (∀ y0, LeO (cubitlaw6_WordKnown.l1 k y0) (cubitlaw6_WordKnown.l1 (k + 1) y0))
  | 0 => ⟨fun _ _ r h => by simp [cubitlaw6_WordKnown.l0] at h, fun _ r h => by simp [cubitlaw6_WordKnown.l1] at h⟩
  | k + 1 => by
    obtain ⟨ih0, ih1⟩ := cubitlaw6_WordKnown.mono_l k
    refine ⟨?_, ?_⟩
    · intro y0 y1
      unfold cubitlaw6_WordKnown.l0
      repeat' first
      | (with_reducible exact ih0 _ _)
      | (with_reducible exact ih1 _)
      | (with_reducible exact cubitlaw6_awake.mono _)
      | (with_reducible exact cubitlaw6_texts.mono _ _ _)
      | (with_reducible exact word_Cut.mono _ _ _)
      | (with_reducible exact word_Split.mono _ _)
      | (with_reducible exact LeO.refl _)
      | (with_reducible exact LeO.none _)
      | (with_reducible refine LeO.ite ?_ ?_)
      | (with_reducible refine LeO.bind ?_ (fun _ => ?_))
      | exact ih0 _ _
      | exact ih1 _
      | exact cubitlaw6_awake.mono _
      | exact cubitlaw6_texts.mono _ _ _
      | exact word_Cut.mono _ _ _
      | exact word_Split.mono _ _
      | exact LeO.none _
      | refine LeO.ite ?_ ?_
      | refine LeO.bind ?_ (fun _ => ?_)
    · intro y0
      unfold cubitlaw6_WordKnown.l1
      repeat' first
      | (with_reducible exact ih0 _ _)
      | (with_reducible exact ih1 _)
      | (with_reducible exact cubitlaw6_awake.mono _)
      | (with_reducible exact cubitlaw6_texts.mono _ _ _)
      | (with_reducible exact word_Cut.mono _ _ _)
      | (with_reducible exact word_Split.mono _ _)
      | (with_reducible exact LeO.refl _)
      | (with_reducible exact LeO.none _)
      | (with_reducible refine LeO.ite ?_ ?_)
      | (with_reducible refine LeO.bind ?_ (fun _ => ?_))
      | exact ih0 _ _
      | exact ih1 _
      | exact cubitlaw6_awake.mono _
      | exact cubitlaw6_texts.mono _ _ _
      | exact word_Cut.mono _ _ _
      | exact word_Split.mono _ _
      | exact LeO.none _
      | refine LeO.ite ?_ ?_
      | refine LeO.bind ?_ (fun _ => ?_)
theorem cubitlaw6_WordKnown.mono : ∀ k, LeO (cubitlaw6_WordKnown.f k ) (cubitlaw6_WordKnown.f (k + 1) ) := by
  intro  k
  obtain ⟨ih0, ih1⟩ := cubitlaw6_WordKnown.mono_l k
  unfold cubitlaw6_WordKnown.f
  repeat' first
      | (with_reducible exact ih0 _ _)
      | (with_reducible exact ih1 _)
      | (with_reducible exact cubitlaw6_awake.mono _)
      | (with_reducible exact cubitlaw6_texts.mono _ _ _)
      | (with_reducible exact word_Cut.mono _ _ _)
      | (with_reducible exact word_Split.mono _ _)
      | (with_reducible exact LeO.refl _)
      | (with_reducible exact LeO.none _)
      | (with_reducible refine LeO.ite ?_ ?_)
      | (with_reducible refine LeO.bind ?_ (fun _ => ?_))
      | exact ih0 _ _
      | exact ih1 _
      | exact cubitlaw6_awake.mono _
      | exact cubitlaw6_texts.mono _ _ _
      | exact word_Cut.mono _ _ _
      | exact word_Split.mono _ _
      | exact LeO.none _
      | refine LeO.ite ?_ ?_
      | refine LeO.bind ?_ (fun _ => ?_)
set_option maxHeartbeats 8000000 in
set_option maxRecDepth 100000 in
theorem cubitlaw6_WordKnown.calls (k : Nat)  (r : Bool) (w : World) (h : cubitlaw6_WordKnown.f k  = some r) (hT : r = true) (hG : Glob w) :
    Calls Tryd.prog 7 #[] w fun e w' => e = .returned (.bool r) ∧ Below w.heap.size w w' := by
  have HB := Aside0.mk (Below.refl w.heap.size w)
  subst hT
  have H : ((cubitlaw6_awake.f k).bind fun t309 => (if t309 = true then (cubitlaw6_WordKnown.l0 k (([(⟨#[]⟩ : ByteArray), (⟨#[45]⟩ : ByteArray), (⟨#[97, 45]⟩ : ByteArray), (⟨#[45, 97]⟩ : ByteArray), (⟨#[97, 45, 45, 98]⟩ : ByteArray), (⟨#[65]⟩ : ByteArray), (⟨#[97, 95, 98]⟩ : ByteArray), (⟨#[97, 98, 99, 100, 101, 102, 103, 104, 105, 106, 107, 108, 109, 110, 111, 112, 113, 114, 115, 116, 117]⟩ : ByteArray)] : List ByteArray)) 0) else (some false))) = some true := h
  clear h
  have HG := Aside0.mk hG
  clear hG
  replace H := Option.bind_eq_some_iff.mp H
  obtain ⟨t309, A10, H⟩ := H
  replace H : (if t309 = true then (cubitlaw6_WordKnown.l0 k (([(⟨#[]⟩ : ByteArray), (⟨#[45]⟩ : ByteArray), (⟨#[97, 45]⟩ : ByteArray), (⟨#[45, 97]⟩ : ByteArray), (⟨#[97, 45, 45, 98]⟩ : ByteArray), (⟨#[65]⟩ : ByteArray), (⟨#[97, 95, 98]⟩ : ByteArray), (⟨#[97, 98, 99, 100, 101, 102, 103, 104, 105, 106, 107, 108, 109, 110, 111, 112, 113, 114, 115, 116, 117]⟩ : ByteArray)] : List ByteArray)) 0) else (some false)) = some true := H
  have A1 := Aside0.mk A10
  clear A10
  by_cases c2 : t309 = true
  · subst c2
    have H1 : (cubitlaw6_WordKnown.l0 k (([(⟨#[]⟩ : ByteArray), (⟨#[45]⟩ : ByteArray), (⟨#[97, 45]⟩ : ByteArray), (⟨#[45, 97]⟩ : ByteArray), (⟨#[97, 45, 45, 98]⟩ : ByteArray), (⟨#[65]⟩ : ByteArray), (⟨#[97, 95, 98]⟩ : ByteArray), (⟨#[97, 98, 99, 100, 101, 102, 103, 104, 105, 106, 107, 108, 109, 110, 111, 112, 113, 114, 115, 116, 117]⟩ : ByteArray)] : List ByteArray)) 0) = some true := by (rw [if_pos rfl] at H); first | done | exact H
    clear H
    have H := H1
    clear H1
    obtain ⟨y310, hy310⟩ : ∃ y_ : List ByteArray, y_ = (([(⟨#[]⟩ : ByteArray), (⟨#[45]⟩ : ByteArray), (⟨#[97, 45]⟩ : ByteArray), (⟨#[45, 97]⟩ : ByteArray), (⟨#[97, 45, 45, 98]⟩ : ByteArray), (⟨#[65]⟩ : ByteArray), (⟨#[97, 95, 98]⟩ : ByteArray), (⟨#[97, 98, 99, 100, 101, 102, 103, 104, 105, 106, 107, 108, 109, 110, 111, 112, 113, 114, 115, 116, 117]⟩ : ByteArray)] : List ByteArray)) := ⟨_, rfl⟩
    replace H : (cubitlaw6_WordKnown.l0 k y310 0) = some true := by first | (rw [hy310]; with_reducible exact H) | (have H2_ := (Option.bind_some _ _).symm.trans H; rw [hy310]; with_reducible exact H2_) | (have H2_ := (Option.bind_some _ _).symm.trans H; with_reducible exact H2_) | with_reducible exact H | (rw [hy310]; exact H) | exact H
    have Ny310 := Aside0.mk hy310
    clear hy310
    have H' := Aside0.mk H
    clear H
    go_enter Tryd.func7, Tryd.ntmps7
    go_wp2_with (first | ((with_reducible refine gate_callee (f := 28) rfl ?_); refine goesL_ (some 9) rfl rfl Tryd.func28 (by kernel_rfl) rfl #[] rfl (by (try simp only [List.map_toArray, List.map_cons, List.map_nil]); first | done | rfl | (simp only [List.length_drop, List.length_take]; rfl)) ?_; (with_reducible refine (cubitlaw6_awake.calls k  true _ A1.out rfl ?side1).mono ?_); (case side1 => exact Glob.below HG.out (by repeat (first | (with_reducible first | exact HB.out | apply below_alloc | apply pw_below_drewN | apply below_drew1) | exact HB.out))); rintro e w3 ⟨rfl, hb⟩; refine ⟨_, rfl, ?_⟩; have n0_ := Aside0.mk (below_step (by repeat (first | (with_reducible first | exact HB.out | apply below_alloc | apply pw_below_drewN | apply below_drew1) | exact HB.out)) hb); clear HB; have HB := n0_; clear n0_; (try clear hb); (try clear hb2); (try clear hk); (try clear hi)) | ((with_reducible refine gate_dst (N := 11) rfl ?_); (try (refine gate_guard (by rfl) ?_; dsimp only)); refine Kd.R_lit Kd.string _ 9 ?hg (N := 11) ?hd (xs := ([(⟨#[]⟩ : ByteArray), (⟨#[45]⟩ : ByteArray), (⟨#[97, 45]⟩ : ByteArray), (⟨#[45, 97]⟩ : ByteArray), (⟨#[97, 45, 45, 98]⟩ : ByteArray), (⟨#[65]⟩ : ByteArray), (⟨#[97, 95, 98]⟩ : ByteArray), (⟨#[97, 98, 99, 100, 101, 102, 103, 104, 105, 106, 107, 108, 109, 110, 111, 112, 113, 114, 115, 116, 117]⟩ : ByteArray)] : List ByteArray)) (inner := [.string (⟨#[]⟩ : ByteArray), .string (⟨#[45]⟩ : ByteArray), .string (⟨#[97, 45]⟩ : ByteArray), .string (⟨#[45, 97]⟩ : ByteArray), .string (⟨#[97, 45, 45, 98]⟩ : ByteArray), .string (⟨#[65]⟩ : ByteArray), .string (⟨#[97, 95, 98]⟩ : ByteArray), .string (⟨#[97, 98, 99, 100, 101, 102, 103, 104, 105, 106, 107, 108, 109, 110, 111, 112, 113, 114, 115, 116, 117]⟩ : ByteArray)]) (ok := fun _ => True) (okp := fun _ => True) ?hr ?hp (fun _ hk => hk) trivial (Below.refl _ _) (Nat.le_refl _) (by simp) ?_; (case hd => rfl); (case hg => rfl); (case hr => first | (go_simp; done) | (go_simp; rfl)); (case hp => exact (Reps.one (show Kd.M Kd.string _ _ _ (⟨#[]⟩ : ByteArray) [.string (⟨#[]⟩ : ByteArray)] from rfl) (Reps.one (show Kd.M Kd.string _ _ _ (⟨#[45]⟩ : ByteArray) [.string (⟨#[45]⟩ : ByteArray)] from rfl) (Reps.one (show Kd.M Kd.string _ _ _ (⟨#[97, 45]⟩ : ByteArray) [.string (⟨#[97, 45]⟩ : ByteArray)] from rfl) (Reps.one (show Kd.M Kd.string _ _ _ (⟨#[45, 97]⟩ : ByteArray) [.string (⟨#[45, 97]⟩ : ByteArray)] from rfl) (Reps.one (show Kd.M Kd.string _ _ _ (⟨#[97, 45, 45, 98]⟩ : ByteArray) [.string (⟨#[97, 45, 45, 98]⟩ : ByteArray)] from rfl) (Reps.one (show Kd.M Kd.string _ _ _ (⟨#[65]⟩ : ByteArray) [.string (⟨#[65]⟩ : ByteArray)] from rfl) (Reps.one (show Kd.M Kd.string _ _ _ (⟨#[97, 95, 98]⟩ : ByteArray) [.string (⟨#[97, 95, 98]⟩ : ByteArray)] from rfl) (Reps.one (show Kd.M Kd.string _ _ _ (⟨#[97, 98, 99, 100, 101, 102, 103, 104, 105, 106, 107, 108, 109, 110, 111, 112, 113, 114, 115, 116, 117]⟩ : ByteArray) [.string (⟨#[97, 98, 99, 100, 101, 102, 103, 104, 105, 106, 107, 108, 109, 110, 111, 112, 113, 114, 115, 116, 117]⟩ : ByteArray)] from rfl) (Reps.none _ _)))))))))); intro v311 w4 ho5 hb hg_ hnew_; clear hg_ hnew_; (first | rw [← Ny310.out] at ho5 | (simp only [Int.reduceToNat] at ho5; rw [← Ny310.out] at ho5)); have n0_ := Aside0.mk (Kd.R_lower ho5 (below_size (by repeat (first | (with_reducible first | exact HB.out | apply below_alloc | apply pw_below_drewN | apply below_drew1) | exact HB.out)))); have n1_ := Aside0.mk (below_step (by repeat (first | (with_reducible first | exact HB.out | apply below_alloc | apply pw_below_drewN | apply below_drew1) | exact HB.out)) hb); clear HB; have HO312 := n0_; have HB := n1_; clear n0_ n1_; clear hb ho5))
    go_loopg [2] k (fun kq v2 w' => ∃ (x2_1 : Int), v2 = .int .i64 x2_1 ∧ Aside0 (cubitlaw6_WordKnown.l0 kq y310 x2_1 = some true) ∧ Aside0 (kq ≤ k) ∧ Aside0 (Kd.R Kd.string 9 w' w.heap.size (fun _ => True) v311 y310) ∧ Aside0 (Below w.heap.size w w'))
    case atStart => exact ⟨(0), (by first | rfl | (simp; done) | (simp only [i64_w, i32_w]; done) | (simp [*]; done)), H', ⟨Nat.le_refl _⟩, ⟨by (with_reducible repeat (first | apply Kd.R_alloc | apply Kd.R_drewN | apply Kd.R_drew)); exact HO312.out⟩, ⟨by repeat (first | (with_reducible first | exact HB.out | apply below_alloc | apply pw_below_drewN | apply below_drew1) | exact HB.out)⟩⟩
    case round =>
      clear H'
      try clear c2
      try clear p2
      obtain ⟨x2_1, rfl, HA, HK1, HO_1, HB⟩ := hrel
      cases gk with
      | zero => exact absurd HA.out (by simp [cubitlaw6_WordKnown.l0])
      | succ k1 =>
        have H := HA.out
        clear HA
        simp only [cubitlaw6_WordKnown.l0] at H
        by_cases c6 : x2_1 < (y310.length : Int)
        · rw [if_pos c6] at H
          have c6b0 : decide (x2_1 < (y310.length : Int)) = true := decide_eq_true c6
          clear c6
          by_cases c7 : 0 ≤ x2_1
          · rw [if_pos c7] at H
            have c7b0 : decide (0 ≤ x2_1) = true := decide_eq_true c7
            clear c7
            replace H := Option.bind_eq_some_iff.mp H
            obtain ⟨⟨t314, t315⟩, A80, H⟩ := H
            replace H : (if t315 = 2 then (cubitlaw6_WordKnown.l0 k1 y310 (wrap64 (x2_1 + 1))) else (some false)) = some true := H
            have A8 := Aside0.mk A80
            clear A80
            by_cases c9 : t315 = 2
            · rw [if_pos c9] at H
              have c9b0 : (t315 == 2) = true := beq_iff_eq.mpr c9
              have c9b1 : (t315 != 2) = false := bne_eq_false_iff_eq.mpr c9
              clear c9
              have H' := Aside0.mk H
              clear H
              obtain ⟨Ao10, co10, eo10⟩ := Kd.R_slice HO_1.out
              subst eo10
              have p313 : 0 ≤ (x2_1 : Int) := of_decide_eq_true (by first | (with_reducible assumption) | assumption)
              have q313 : x2_1 < (y310.length : Int) := of_decide_eq_true (by first | (with_reducible assumption) | assumption)
              obtain ⟨ad313, e313, hx313_0⟩ := Kd.at_string (Kd.R_reads' HO_1.out).2.2 x2_1 p313 q313
              cases e313
              replace p313 := eq_true p313
              replace q313 := eq_true q313
              go_wp2_with (first | ((with_reducible refine gate_callee (f := 29) rfl ?_); refine goesL_ (some 23) rfl rfl Tryd.func29 (by kernel_rfl) rfl #[.string (rdOf ByteArray.empty y310 x2_1)] rfl (by (try simp only [List.map_toArray, List.map_cons, List.map_nil]); first | done | rfl | (simp only [List.length_drop, List.length_take]; rfl)) ?_; (with_reducible refine (word_Split.calls k1 (rdOf ByteArray.empty y310 x2_1) t314 t315 _ A8.out ?side1).mono ?_); (case side1 => exact Glob.below HG.out (by repeat (first | (with_reducible first | exact HB.out | apply below_alloc | apply pw_below_drewN | apply below_drew1) | exact HB.out))); rintro e w11 ⟨v316, rfl, ho0, hb⟩; refine ⟨_, rfl, ?_⟩; have n0_ := Aside0.mk (Kd.R_elder' (by (with_reducible repeat (first | apply Kd.R_alloc | apply Kd.R_drewN | apply Kd.R_drew)); exact HO_1.out) (Kd.R_base ho0) hb); have n1_ := Aside0.mk (Kd.R_lower (Kd.R_new' ho0 (Kd.R_lt (by (with_reducible repeat (first | apply Kd.R_alloc | apply Kd.R_drewN | apply Kd.R_drew)); exact HO_1.out))) (below_size (by repeat (first | (with_reducible first | exact HB.out | apply below_alloc | apply pw_below_drewN | apply below_drew1) | exact HB.out)))); have n2_ := Aside0.mk (below_step (by repeat (first | (with_reducible first | exact HB.out | apply below_alloc | apply pw_below_drewN | apply below_drew1) | exact HB.out)) hb); clear HO_1; clear HB; have HO_1 := n0_; have HO317 := n1_; have HB := n2_; clear n0_ n1_ n2_; (try clear hb); (try clear hb2); (try clear hk); (try clear hi); (try clear ho0)))
              go_roundg k1
              case measure => have := HK1.out; omega
              case rel => exact ⟨(wrap64 (x2_1 + 1)), (by first | rfl | (simp; done) | (simp only [i64_w, i32_w]; done) | (simp [*]; done)), H', ⟨by have := HK1.out; omega⟩, ⟨by (with_reducible repeat (first | apply Kd.R_alloc | apply Kd.R_drewN | apply Kd.R_drew)); exact Kd.R_mono HO_1.out (fun _ hk => trivial)⟩, ⟨by repeat (first | (with_reducible first | exact HB.out | apply below_alloc | apply pw_below_drewN | apply below_drew1) | exact HB.out)⟩⟩
            · rw [if_neg c9] at H
              have c9b0 : (t315 == 2) = false := beq_eq_false_iff_ne.mpr c9
              have c9b1 : (t315 != 2) = true := bne_iff_ne.mpr c9
              exact absurd H (by simp)
          · rw [if_neg c7] at H
            exact absurd H (by simp)
        · rw [if_neg c6] at H
          have c6b0 : decide (x2_1 < (y310.length : Int)) = false := decide_eq_false c6
          clear c6
          have H' := Aside0.mk H
          clear H
          obtain ⟨Ao12, co12, eo12⟩ := Kd.R_slice HO_1.out
          subst eo12
          go_wp2
          go_loopg [5] k1 (fun kq v5 w' => ∃ (x5_2 : ByteArray), v5 = .string x5_2 ∧ Aside0 (cubitlaw6_WordKnown.l1 kq x5_2 = some true) ∧ Aside0 (kq ≤ k1) ∧ Aside0 (Below w.heap.size w w'))
          case atStart => exact ⟨((⟨#[97]⟩ : ByteArray)), (by first | rfl | (simp; done) | (simp only [i64_w, i32_w]; done) | (simp [*]; done)), H', ⟨Nat.le_refl _⟩, ⟨by repeat (first | (with_reducible first | exact HB.out | apply below_alloc | apply pw_below_drewN | apply below_drew1) | exact HB.out)⟩⟩
          case round =>
            clear H'
            try clear c2
            try clear p2
            try clear p3
            try clear q3
            try clear hx3
            try clear c6
            try clear c6b0
            try clear p6
            try clear c7
            try clear c7b0
            try clear c9
            try clear c9b0
            try clear c9b1
            try clear hx313_0
            try clear p2
            try clear p313
            try clear q313
            obtain ⟨x5_2, rfl, HA, HK2, HB⟩ := hrel
            cases gk with
            | zero => exact absurd HA.out (by simp [cubitlaw6_WordKnown.l1])
            | succ k2 =>
              have H := HA.out
              clear HA
              simp only [cubitlaw6_WordKnown.l1] at H
              by_cases c13 : (x5_2.size : Int) < 257
              · rw [if_pos c13] at H
                have c13b0 : decide ((x5_2.size : Int) < 257) = true := decide_eq_true c13
                have c13b1 : decide (x5_2.size < 257) = true := decide_eq_true (by omega)
                clear c13
                by_cases c14 : x5_2.size + 2 ≤ 9223372036854775807
                · rw [if_pos c14] at H
                  have c14b0 := eq_true c14
                  have c14b1 : decide (x5_2.size + 2 ≤ 9223372036854775807) = true := decide_eq_true c14
                  try have c14b2 : (9223372036854775807 < x5_2.size + 2) = False := eq_false (Nat.not_lt.2 c14)
                  have H' := Aside0.mk H
                  clear H
                  go_wp2
                  go_roundg k2
                  case measure => have := HK1.out; have := HK2.out; omega
                  case rel => exact ⟨(x5_2 ++ (⟨#[45, 97]⟩ : ByteArray)), (by first | rfl | (simp; done) | (simp only [i64_w, i32_w]; done) | (simp [*]; done)), H', ⟨by have := HK1.out; have := HK2.out; omega⟩, ⟨by repeat (first | (with_reducible first | exact HB.out | apply below_alloc | apply pw_below_drewN | apply below_drew1) | exact HB.out)⟩⟩
                · rw [if_neg c14] at H
                  exact absurd H (by simp)
              · rw [if_neg c13] at H
                have c13b0 : decide ((x5_2.size : Int) < 257) = false := decide_eq_false c13
                have c13b1 : decide (x5_2.size < 257) = false := decide_eq_false (by omega)
                clear c13
                replace H := Option.bind_eq_some_iff.mp H
                obtain ⟨⟨t318, t319⟩, A150, H⟩ := H
                replace H : ((word_Cut.f k2 (([(⟨#[97]⟩ : ByteArray), (⟨#[97, 110, 100]⟩ : ByteArray), (⟨#[97, 110, 100]⟩ : ByteArray), (⟨#[98]⟩ : ByteArray)] : List ByteArray)) (⟨#[97, 110, 100]⟩ : ByteArray)).bind fun t325 => (if t319 = 11 then (if (t325.length : Int) = 3 then (if 0 < (t325.length : Int) then ((cubitlaw6_texts.f k2 (rd_L2 t325 0) (([(⟨#[97]⟩ : ByteArray)] : List ByteArray))).bind fun t332 => (if t332 = true then (if 1 < (t325.length : Int) then (if ((rd_L2 t325 1).length : Int) = 0 then (if 2 < (t325.length : Int) then ((cubitlaw6_texts.f k2 (rd_L2 t325 2) (([(⟨#[98]⟩ : ByteArray)] : List ByteArray))).bind fun t338 => (if t338 = true then ((word_Cut.f k2 ([] : List ByteArray) (⟨#[120]⟩ : ByteArray)).bind fun t339 => (if (t339.length : Int) = 1 then ((word_Number.f (⟨#[48]⟩ : ByteArray)).bind fun t342 => (if t342 = true then (some false) else ((word_Number.f (⟨#[48, 49]⟩ : ByteArray)).bind fun t343 => (if t343 = true then (some false) else ((word_Number.f (⟨#[]⟩ : ByteArray)).bind fun t344 => (if t344 = true then (some false) else ((word_Number.f (⟨#[49, 50, 51, 52, 53, 54, 55, 56, 57, 48, 49, 50, 51, 52, 53, 54, 55, 56, 57, 48, 49]⟩ : ByteArray)).bind fun t345 => (if t345 = true then (some false) else ((word_Number.f (⟨#[49, 50, 51, 52, 53, 54, 55, 56, 57, 48, 49, 50, 51, 52, 53, 54, 55, 56, 57, 48]⟩ : ByteArray)).bind fun t346 => (if t346 = true then ((word_Good.f (⟨#[97, 98, 99, 100, 101, 102, 103, 104, 105, 106, 107, 108, 109, 110, 111, 112, 113, 114, 115, 116, 117]⟩ : ByteArray)).bind fun t347 => (if t347 = true then (some false) else ((word_Join.f ([] : List ByteArray)).bind fun t348 => (if t348.toList = ([] : List UInt8) then (some true) else (some false))))) else (some false))))))))))) else (some false))) else (some false))) else (none)) else (some false)) else (none)) else (some false))) else (none)) else (some false)) else (some false))) = some true := H
                have A15 := Aside0.mk A150
                clear A150
                obtain ⟨y322, hy322⟩ : ∃ y_ : List ByteArray, y_ = (([(⟨#[97]⟩ : ByteArray), (⟨#[97, 110, 100]⟩ : ByteArray), (⟨#[97, 110, 100]⟩ : ByteArray), (⟨#[98]⟩ : ByteArray)] : List ByteArray)) := ⟨_, rfl⟩
                replace H : ((word_Cut.f k2 y322 (⟨#[97, 110, 100]⟩ : ByteArray)).bind fun t325 => (if t319 = 11 then (if (t325.length : Int) = 3 then (if 0 < (t325.length : Int) then ((cubitlaw6_texts.f k2 (rd_L2 t325 0) (([(⟨#[97]⟩ : ByteArray)] : List ByteArray))).bind fun t332 => (if t332 = true then (if 1 < (t325.length : Int) then (if ((rd_L2 t325 1).length : Int) = 0 then (if 2 < (t325.length : Int) then ((cubitlaw6_texts.f k2 (rd_L2 t325 2) (([(⟨#[98]⟩ : ByteArray)] : List ByteArray))).bind fun t338 => (if t338 = true then ((word_Cut.f k2 ([] : List ByteArray) (⟨#[120]⟩ : ByteArray)).bind fun t339 => (if (t339.length : Int) = 1 then ((word_Number.f (⟨#[48]⟩ : ByteArray)).bind fun t342 => (if t342 = true then (some false) else ((word_Number.f (⟨#[48, 49]⟩ : ByteArray)).bind fun t343 => (if t343 = true then (some false) else ((word_Number.f (⟨#[]⟩ : ByteArray)).bind fun t344 => (if t344 = true then (some false) else ((word_Number.f (⟨#[49, 50, 51, 52, 53, 54, 55, 56, 57, 48, 49, 50, 51, 52, 53, 54, 55, 56, 57, 48, 49]⟩ : ByteArray)).bind fun t345 => (if t345 = true then (some false) else ((word_Number.f (⟨#[49, 50, 51, 52, 53, 54, 55, 56, 57, 48, 49, 50, 51, 52, 53, 54, 55, 56, 57, 48]⟩ : ByteArray)).bind fun t346 => (if t346 = true then ((word_Good.f (⟨#[97, 98, 99, 100, 101, 102, 103, 104, 105, 106, 107, 108, 109, 110, 111, 112, 113, 114, 115, 116, 117]⟩ : ByteArray)).bind fun t347 => (if t347 = true then (some false) else ((word_Join.f ([] : List ByteArray)).bind fun t348 => (if t348.toList = ([] : List UInt8) then (some true) else (some false))))) else (some false))))))))))) else (some false))) else (some false))) else (none)) else (some false)) else (none)) else (some false))) else (none)) else (some false)) else (some false))) = some true := by first | (rw [hy322]; with_reducible exact H) | (have H2_ := (Option.bind_some _ _).symm.trans H; rw [hy322]; with_reducible exact H2_) | (have H2_ := (Option.bind_some _ _).symm.trans H; with_reducible exact H2_) | with_reducible exact H | (rw [hy322]; exact H) | exact H
                have Ny322 := Aside0.mk hy322
                clear hy322
                replace H := Option.bind_eq_some_iff.mp H
                obtain ⟨t325, A160, H⟩ := H
                replace H : (if t319 = 11 then (if (t325.length : Int) = 3 then (if 0 < (t325.length : Int) then ((cubitlaw6_texts.f k2 (rd_L2 t325 0) (([(⟨#[97]⟩ : ByteArray)] : List ByteArray))).bind fun t332 => (if t332 = true then (if 1 < (t325.length : Int) then (if ((rd_L2 t325 1).length : Int) = 0 then (if 2 < (t325.length : Int) then ((cubitlaw6_texts.f k2 (rd_L2 t325 2) (([(⟨#[98]⟩ : ByteArray)] : List ByteArray))).bind fun t338 => (if t338 = true then ((word_Cut.f k2 ([] : List ByteArray) (⟨#[120]⟩ : ByteArray)).bind fun t339 => (if (t339.length : Int) = 1 then ((word_Number.f (⟨#[48]⟩ : ByteArray)).bind fun t342 => (if t342 = true then (some false) else ((word_Number.f (⟨#[48, 49]⟩ : ByteArray)).bind fun t343 => (if t343 = true then (some false) else ((word_Number.f (⟨#[]⟩ : ByteArray)).bind fun t344 => (if t344 = true then (some false) else ((word_Number.f (⟨#[49, 50, 51, 52, 53, 54, 55, 56, 57, 48, 49, 50, 51, 52, 53, 54, 55, 56, 57, 48, 49]⟩ : ByteArray)).bind fun t345 => (if t345 = true then (some false) else ((word_Number.f (⟨#[49, 50, 51, 52, 53, 54, 55, 56, 57, 48, 49, 50, 51, 52, 53, 54, 55, 56, 57, 48]⟩ : ByteArray)).bind fun t346 => (if t346 = true then ((word_Good.f (⟨#[97, 98, 99, 100, 101, 102, 103, 104, 105, 106, 107, 108, 109, 110, 111, 112, 113, 114, 115, 116, 117]⟩ : ByteArray)).bind fun t347 => (if t347 = true then (some false) else ((word_Join.f ([] : List ByteArray)).bind fun t348 => (if t348.toList = ([] : List UInt8) then (some true) else (some false))))) else (some false))))))))))) else (some false))) else (some false))) else (none)) else (some false)) else (none)) else (some false))) else (none)) else (some false)) else (some false)) = some true := H
                have A16 := Aside0.mk A160
                clear A160
                by_cases c17 : t319 = 11
                · rw [if_pos c17] at H
                  have c17b0 : (t319 == 11) = true := beq_iff_eq.mpr c17
                  have c17b1 : (t319 != 11) = false := bne_eq_false_iff_eq.mpr c17
                  clear c17
                  by_cases c18 : (t325.length : Int) = 3
                  · rw [if_pos c18] at H
                    have c18b0 : ((t325.length : Int) == 3) = true := beq_iff_eq.mpr c18
                    have c18b1 : ((t325.length : Int) != 3) = false := bne_eq_false_iff_eq.mpr c18
                    clear c18
                    by_cases c19 : 0 < (t325.length : Int)
                    · rw [if_pos c19] at H
                      have c19b0 : decide (0 < (t325.length : Int)) = true := decide_eq_true c19
                      have c19b1 : decide (0 < t325.length) = true := decide_eq_true (by omega)
                      clear c19
                      obtain ⟨y329, hy329⟩ : ∃ y_ : List ByteArray, y_ = (([(⟨#[97]⟩ : ByteArray)] : List ByteArray)) := ⟨_, rfl⟩
                      replace H : ((cubitlaw6_texts.f k2 (rd_L2 t325 0) y329).bind fun t332 => (if t332 = true then (if 1 < (t325.length : Int) then (if ((rd_L2 t325 1).length : Int) = 0 then (if 2 < (t325.length : Int) then ((cubitlaw6_texts.f k2 (rd_L2 t325 2) (([(⟨#[98]⟩ : ByteArray)] : List ByteArray))).bind fun t338 => (if t338 = true then ((word_Cut.f k2 ([] : List ByteArray) (⟨#[120]⟩ : ByteArray)).bind fun t339 => (if (t339.length : Int) = 1 then ((word_Number.f (⟨#[48]⟩ : ByteArray)).bind fun t342 => (if t342 = true then (some false) else ((word_Number.f (⟨#[48, 49]⟩ : ByteArray)).bind fun t343 => (if t343 = true then (some false) else ((word_Number.f (⟨#[]⟩ : ByteArray)).bind fun t344 => (if t344 = true then (some false) else ((word_Number.f (⟨#[49, 50, 51, 52, 53, 54, 55, 56, 57, 48, 49, 50, 51, 52, 53, 54, 55, 56, 57, 48, 49]⟩ : ByteArray)).bind fun t345 => (if t345 = true then (some false) else ((word_Number.f (⟨#[49, 50, 51, 52, 53, 54, 55, 56, 57, 48, 49, 50, 51, 52, 53, 54, 55, 56, 57, 48]⟩ : ByteArray)).bind fun t346 => (if t346 = true then ((word_Good.f (⟨#[97, 98, 99, 100, 101, 102, 103, 104, 105, 106, 107, 108, 109, 110, 111, 112, 113, 114, 115, 116, 117]⟩ : ByteArray)).bind fun t347 => (if t347 = true then (some false) else ((word_Join.f ([] : List ByteArray)).bind fun t348 => (if t348.toList = ([] : List UInt8) then (some true) else (some false))))) else (some false))))))))))) else (some false))) else (some false))) else (none)) else (some false)) else (none)) else (some false))) = some true := by first | (rw [hy329]; with_reducible exact H) | (have H2_ := (Option.bind_some _ _).symm.trans H; rw [hy329]; with_reducible exact H2_) | (have H2_ := (Option.bind_some _ _).symm.trans H; with_reducible exact H2_) | with_reducible exact H | (rw [hy329]; exact H) | exact H
                      have Ny329 := Aside0.mk hy329
                      clear hy329
                      replace H := Option.bind_eq_some_iff.mp H
                      obtain ⟨t332, A200, H⟩ := H
                      replace H : (if t332 = true then (if 1 < (t325.length : Int) then (if ((rd_L2 t325 1).length : Int) = 0 then (if 2 < (t325.length : Int) then ((cubitlaw6_texts.f k2 (rd_L2 t325 2) (([(⟨#[98]⟩ : ByteArray)] : List ByteArray))).bind fun t338 => (if t338 = true then ((word_Cut.f k2 ([] : List ByteArray) (⟨#[120]⟩ : ByteArray)).bind fun t339 => (if (t339.length : Int) = 1 then ((word_Number.f (⟨#[48]⟩ : ByteArray)).bind fun t342 => (if t342 = true then (some false) else ((word_Number.f (⟨#[48, 49]⟩ : ByteArray)).bind fun t343 => (if t343 = true then (some false) else ((word_Number.f (⟨#[]⟩ : ByteArray)).bind fun t344 => (if t344 = true then (some false) else ((word_Number.f (⟨#[49, 50, 51, 52, 53, 54, 55, 56, 57, 48, 49, 50, 51, 52, 53, 54, 55, 56, 57, 48, 49]⟩ : ByteArray)).bind fun t345 => (if t345 = true then (some false) else ((word_Number.f (⟨#[49, 50, 51, 52, 53, 54, 55, 56, 57, 48, 49, 50, 51, 52, 53, 54, 55, 56, 57, 48]⟩ : ByteArray)).bind fun t346 => (if t346 = true then ((word_Good.f (⟨#[97, 98, 99, 100, 101, 102, 103, 104, 105, 106, 107, 108, 109, 110, 111, 112, 113, 114, 115, 116, 117]⟩ : ByteArray)).bind fun t347 => (if t347 = true then (some false) else ((word_Join.f ([] : List ByteArray)).bind fun t348 => (if t348.toList = ([] : List UInt8) then (some true) else (some false))))) else (some false))))))))))) else (some false))) else (some false))) else (none)) else (some false)) else (none)) else (some false)) = some true := H
                      have A20 := Aside0.mk A200
                      clear A200
                      by_cases c21 : t332 = true
                      · subst c21
                        have H1 : (if 1 < (t325.length : Int) then (if ((rd_L2 t325 1).length : Int) = 0 then (if 2 < (t325.length : Int) then ((cubitlaw6_texts.f k2 (rd_L2 t325 2) (([(⟨#[98]⟩ : ByteArray)] : List ByteArray))).bind fun t338 => (if t338 = true then ((word_Cut.f k2 ([] : List ByteArray) (⟨#[120]⟩ : ByteArray)).bind fun t339 => (if (t339.length : Int) = 1 then ((word_Number.f (⟨#[48]⟩ : ByteArray)).bind fun t342 => (if t342 = true then (some false) else ((word_Number.f (⟨#[48, 49]⟩ : ByteArray)).bind fun t343 => (if t343 = true then (some false) else ((word_Number.f (⟨#[]⟩ : ByteArray)).bind fun t344 => (if t344 = true then (some false) else ((word_Number.f (⟨#[49, 50, 51, 52, 53, 54, 55, 56, 57, 48, 49, 50, 51, 52, 53, 54, 55, 56, 57, 48, 49]⟩ : ByteArray)).bind fun t345 => (if t345 = true then (some false) else ((word_Number.f (⟨#[49, 50, 51, 52, 53, 54, 55, 56, 57, 48, 49, 50, 51, 52, 53, 54, 55, 56, 57, 48]⟩ : ByteArray)).bind fun t346 => (if t346 = true then ((word_Good.f (⟨#[97, 98, 99, 100, 101, 102, 103, 104, 105, 106, 107, 108, 109, 110, 111, 112, 113, 114, 115, 116, 117]⟩ : ByteArray)).bind fun t347 => (if t347 = true then (some false) else ((word_Join.f ([] : List ByteArray)).bind fun t348 => (if t348.toList = ([] : List UInt8) then (some true) else (some false))))) else (some false))))))))))) else (some false))) else (some false))) else (none)) else (some false)) else (none)) = some true := by (rw [if_pos rfl] at H); first | done | exact H
                        clear H
                        have H := H1
                        clear H1
                        by_cases c22 : 1 < (t325.length : Int)
                        · rw [if_pos c22] at H
                          have c22b0 : decide (1 < (t325.length : Int)) = true := decide_eq_true c22
                          have c22b1 : decide (1 < t325.length) = true := decide_eq_true (by omega)
                          clear c22
                          by_cases c23 : ((rd_L2 t325 1).length : Int) = 0
                          · rw [if_pos c23] at H
                            have c23b0 : (((rd_L2 t325 1).length : Int) == 0) = true := beq_iff_eq.mpr c23
                            have c23b1 : (((rd_L2 t325 1).length : Int) != 0) = false := bne_eq_false_iff_eq.mpr c23
                            clear c23
                            by_cases c24 : 2 < (t325.length : Int)
                            · rw [if_pos c24] at H
                              have c24b0 : decide (2 < (t325.length : Int)) = true := decide_eq_true c24
                              have c24b1 : decide (2 < t325.length) = true := decide_eq_true (by omega)
                              clear c24
                              obtain ⟨y335, hy335⟩ : ∃ y_ : List ByteArray, y_ = (([(⟨#[98]⟩ : ByteArray)] : List ByteArray)) := ⟨_, rfl⟩
                              replace H : ((cubitlaw6_texts.f k2 (rd_L2 t325 2) y335).bind fun t338 => (if t338 = true then ((word_Cut.f k2 ([] : List ByteArray) (⟨#[120]⟩ : ByteArray)).bind fun t339 => (if (t339.length : Int) = 1 then ((word_Number.f (⟨#[48]⟩ : ByteArray)).bind fun t342 => (if t342 = true then (some false) else ((word_Number.f (⟨#[48, 49]⟩ : ByteArray)).bind fun t343 => (if t343 = true then (some false) else ((word_Number.f (⟨#[]⟩ : ByteArray)).bind fun t344 => (if t344 = true then (some false) else ((word_Number.f (⟨#[49, 50, 51, 52, 53, 54, 55, 56, 57, 48, 49, 50, 51, 52, 53, 54, 55, 56, 57, 48, 49]⟩ : ByteArray)).bind fun t345 => (if t345 = true then (some false) else ((word_Number.f (⟨#[49, 50, 51, 52, 53, 54, 55, 56, 57, 48, 49, 50, 51, 52, 53, 54, 55, 56, 57, 48]⟩ : ByteArray)).bind fun t346 => (if t346 = true then ((word_Good.f (⟨#[97, 98, 99, 100, 101, 102, 103, 104, 105, 106, 107, 108, 109, 110, 111, 112, 113, 114, 115, 116, 117]⟩ : ByteArray)).bind fun t347 => (if t347 = true then (some false) else ((word_Join.f ([] : List ByteArray)).bind fun t348 => (if t348.toList = ([] : List UInt8) then (some true) else (some false))))) else (some false))))))))))) else (some false))) else (some false))) = some true := by first | (rw [hy335]; with_reducible exact H) | (have H2_ := (Option.bind_some _ _).symm.trans H; rw [hy335]; with_reducible exact H2_) | (have H2_ := (Option.bind_some _ _).symm.trans H; with_reducible exact H2_) | with_reducible exact H | (rw [hy335]; exact H) | exact H
                              have Ny335 := Aside0.mk hy335
                              clear hy335
                              replace H := Option.bind_eq_some_iff.mp H
                              obtain ⟨t338, A250, H⟩ := H
                              replace H : (if t338 = true then ((word_Cut.f k2 ([] : List ByteArray) (⟨#[120]⟩ : ByteArray)).bind fun t339 => (if (t339.length : Int) = 1 then ((word_Number.f (⟨#[48]⟩ : ByteArray)).bind fun t342 => (if t342 = true then (some false) else ((word_Number.f (⟨#[48, 49]⟩ : ByteArray)).bind fun t343 => (if t343 = true then (some false) else ((word_Number.f (⟨#[]⟩ : ByteArray)).bind fun t344 => (if t344 = true then (some false) else ((word_Number.f (⟨#[49, 50, 51, 52, 53, 54, 55, 56, 57, 48, 49, 50, 51, 52, 53, 54, 55, 56, 57, 48, 49]⟩ : ByteArray)).bind fun t345 => (if t345 = true then (some false) else ((word_Number.f (⟨#[49, 50, 51, 52, 53, 54, 55, 56, 57, 48, 49, 50, 51, 52, 53, 54, 55, 56, 57, 48]⟩ : ByteArray)).bind fun t346 => (if t346 = true then ((word_Good.f (⟨#[97, 98, 99, 100, 101, 102, 103, 104, 105, 106, 107, 108, 109, 110, 111, 112, 113, 114, 115, 116, 117]⟩ : ByteArray)).bind fun t347 => (if t347 = true then (some false) else ((word_Join.f ([] : List ByteArray)).bind fun t348 => (if t348.toList = ([] : List UInt8) then (some true) else (some false))))) else (some false))))))))))) else (some false))) else (some false)) = some true := H
                              have A25 := Aside0.mk A250
                              clear A250
                              by_cases c26 : t338 = true
                              · subst c26
                                have H1 : ((word_Cut.f k2 ([] : List ByteArray) (⟨#[120]⟩ : ByteArray)).bind fun t339 => (if (t339.length : Int) = 1 then ((word_Number.f (⟨#[48]⟩ : ByteArray)).bind fun t342 => (if t342 = true then (some false) else ((word_Number.f (⟨#[48, 49]⟩ : ByteArray)).bind fun t343 => (if t343 = true then (some false) else ((word_Number.f (⟨#[]⟩ : ByteArray)).bind fun t344 => (if t344 = true then (some false) else ((word_Number.f (⟨#[49, 50, 51, 52, 53, 54, 55, 56, 57, 48, 49, 50, 51, 52, 53, 54, 55, 56, 57, 48, 49]⟩ : ByteArray)).bind fun t345 => (if t345 = true then (some false) else ((word_Number.f (⟨#[49, 50, 51, 52, 53, 54, 55, 56, 57, 48, 49, 50, 51, 52, 53, 54, 55, 56, 57, 48]⟩ : ByteArray)).bind fun t346 => (if t346 = true then ((word_Good.f (⟨#[97, 98, 99, 100, 101, 102, 103, 104, 105, 106, 107, 108, 109, 110, 111, 112, 113, 114, 115, 116, 117]⟩ : ByteArray)).bind fun t347 => (if t347 = true then (some false) else ((word_Join.f ([] : List ByteArray)).bind fun t348 => (if t348.toList = ([] : List UInt8) then (some true) else (some false))))) else (some false))))))))))) else (some false))) = some true := by (rw [if_pos rfl] at H); first | done | exact H
                                clear H
                                have H := H1
                                clear H1
                                replace H := Option.bind_eq_some_iff.mp H
                                obtain ⟨t339, A270, H⟩ := H
                                replace H : (if (t339.length : Int) = 1 then ((word_Number.f (⟨#[48]⟩ : ByteArray)).bind fun t342 => (if t342 = true then (some false) else ((word_Number.f (⟨#[48, 49]⟩ : ByteArray)).bind fun t343 => (if t343 = true then (some false) else ((word_Number.f (⟨#[]⟩ : ByteArray)).bind fun t344 => (if t344 = true then (some false) else ((word_Number.f (⟨#[49, 50, 51, 52, 53, 54, 55, 56, 57, 48, 49, 50, 51, 52, 53, 54, 55, 56, 57, 48, 49]⟩ : ByteArray)).bind fun t345 => (if t345 = true then (some false) else ((word_Number.f (⟨#[49, 50, 51, 52, 53, 54, 55, 56, 57, 48, 49, 50, 51, 52, 53, 54, 55, 56, 57, 48]⟩ : ByteArray)).bind fun t346 => (if t346 = true then ((word_Good.f (⟨#[97, 98, 99, 100, 101, 102, 103, 104, 105, 106, 107, 108, 109, 110, 111, 112, 113, 114, 115, 116, 117]⟩ : ByteArray)).bind fun t347 => (if t347 = true then (some false) else ((word_Join.f ([] : List ByteArray)).bind fun t348 => (if t348.toList = ([] : List UInt8) then (some true) else (some false))))) else (some false))))))))))) else (some false)) = some true := H
                                have A27 := Aside0.mk A270
                                clear A270
                                by_cases c28 : (t339.length : Int) = 1
                                · rw [if_pos c28] at H
                                  have c28b0 : ((t339.length : Int) == 1) = true := beq_iff_eq.mpr c28
                                  have c28b1 : ((t339.length : Int) != 1) = false := bne_eq_false_iff_eq.mpr c28
                                  clear c28
                                  replace H := Option.bind_eq_some_iff.mp H
                                  obtain ⟨t342, A290, H⟩ := H
                                  replace H : (if t342 = true then (some false) else ((word_Number.f (⟨#[48, 49]⟩ : ByteArray)).bind fun t343 => (if t343 = true then (some false) else ((word_Number.f (⟨#[]⟩ : ByteArray)).bind fun t344 => (if t344 = true then (some false) else ((word_Number.f (⟨#[49, 50, 51, 52, 53, 54, 55, 56, 57, 48, 49, 50, 51, 52, 53, 54, 55, 56, 57, 48, 49]⟩ : ByteArray)).bind fun t345 => (if t345 = true then (some false) else ((word_Number.f (⟨#[49, 50, 51, 52, 53, 54, 55, 56, 57, 48, 49, 50, 51, 52, 53, 54, 55, 56, 57, 48]⟩ : ByteArray)).bind fun t346 => (if t346 = true then ((word_Good.f (⟨#[97, 98, 99, 100, 101, 102, 103, 104, 105, 106, 107, 108, 109, 110, 111, 112, 113, 114, 115, 116, 117]⟩ : ByteArray)).bind fun t347 => (if t347 = true then (some false) else ((word_Join.f ([] : List ByteArray)).bind fun t348 => (if t348.toList = ([] : List UInt8) then (some true) else (some false))))) else (some false)))))))))) = some true := H
                                  have A29 := Aside0.mk A290
                                  clear A290
                                  by_cases c30 : t342 = true
                                  · subst c30
                                    have H1 : (some false) = some true := by (rw [if_pos rfl] at H); first | done | exact H
                                    clear H
                                    have H := H1
                                    clear H1
                                    exact absurd H (by simp)
                                  · replace c30 := Bool.eq_false_iff.mpr c30
                                    subst c30
                                    have H1 : ((word_Number.f (⟨#[48, 49]⟩ : ByteArray)).bind fun t343 => (if t343 = true then (some false) else ((word_Number.f (⟨#[]⟩ : ByteArray)).bind fun t344 => (if t344 = true then (some false) else ((word_Number.f (⟨#[49, 50, 51, 52, 53, 54, 55, 56, 57, 48, 49, 50, 51, 52, 53, 54, 55, 56, 57, 48, 49]⟩ : ByteArray)).bind fun t345 => (if t345 = true then (some false) else ((word_Number.f (⟨#[49, 50, 51, 52, 53, 54, 55, 56, 57, 48, 49, 50, 51, 52, 53, 54, 55, 56, 57, 48]⟩ : ByteArray)).bind fun t346 => (if t346 = true then ((word_Good.f (⟨#[97, 98, 99, 100, 101, 102, 103, 104, 105, 106, 107, 108, 109, 110, 111, 112, 113, 114, 115, 116, 117]⟩ : ByteArray)).bind fun t347 => (if t347 = true then (some false) else ((word_Join.f ([] : List ByteArray)).bind fun t348 => (if t348.toList = ([] : List UInt8) then (some true) else (some false))))) else (some false))))))))) = some true := by (rw [if_neg (show ¬ (false = true) by decide)] at H); first | done | exact H
                                    clear H
                                    have H := H1
                                    clear H1
                                    replace H := Option.bind_eq_some_iff.mp H
                                    obtain ⟨t343, A310, H⟩ := H
                                    replace H : (if t343 = true then (some false) else ((word_Number.f (⟨#[]⟩ : ByteArray)).bind fun t344 => (if t344 = true then (some false) else ((word_Number.f (⟨#[49, 50, 51, 52, 53, 54, 55, 56, 57, 48, 49, 50, 51, 52, 53, 54, 55, 56, 57, 48, 49]⟩ : ByteArray)).bind fun t345 => (if t345 = true then (some false) else ((word_Number.f (⟨#[49, 50, 51, 52, 53, 54, 55, 56, 57, 48, 49, 50, 51, 52, 53, 54, 55, 56, 57, 48]⟩ : ByteArray)).bind fun t346 => (if t346 = true then ((word_Good.f (⟨#[97, 98, 99, 100, 101, 102, 103, 104, 105, 106, 107, 108, 109, 110, 111, 112, 113, 114, 115, 116, 117]⟩ : ByteArray)).bind fun t347 => (if t347 = true then (some false) else ((word_Join.f ([] : List ByteArray)).bind fun t348 => (if t348.toList = ([] : List UInt8) then (some true) else (some false))))) else (some false)))))))) = some true := H
                                    have A31 := Aside0.mk A310
                                    clear A310
                                    by_cases c32 : t343 = true
                                    · subst c32
                                      have H1 : (some false) = some true := by (rw [if_pos rfl] at H); first | done | exact H
                                      clear H
                                      have H := H1
                                      clear H1
                                      exact absurd H (by simp)
                                    · replace c32 := Bool.eq_false_iff.mpr c32
                                      subst c32
                                      have H1 : ((word_Number.f (⟨#[]⟩ : ByteArray)).bind fun t344 => (if t344 = true then (some false) else ((word_Number.f (⟨#[49, 50, 51, 52, 53, 54, 55, 56, 57, 48, 49, 50, 51, 52, 53, 54, 55, 56, 57, 48, 49]⟩ : ByteArray)).bind fun t345 => (if t345 = true then (some false) else ((word_Number.f (⟨#[49, 50, 51, 52, 53, 54, 55, 56, 57, 48, 49, 50, 51, 52, 53, 54, 55, 56, 57, 48]⟩ : ByteArray)).bind fun t346 => (if t346 = true then ((word_Good.f (⟨#[97, 98, 99, 100, 101, 102, 103, 104, 105, 106, 107, 108, 109, 110, 111, 112, 113, 114, 115, 116, 117]⟩ : ByteArray)).bind fun t347 => (if t347 = true then (some false) else ((word_Join.f ([] : List ByteArray)).bind fun t348 => (if t348.toList = ([] : List UInt8) then (some true) else (some false))))) else (some false))))))) = some true := by (rw [if_neg (show ¬ (false = true) by decide)] at H); first | done | exact H
                                      clear H
                                      have H := H1
                                      clear H1
                                      replace H := Option.bind_eq_some_iff.mp H
                                      obtain ⟨t344, A330, H⟩ := H
                                      replace H : (if t344 = true then (some false) else ((word_Number.f (⟨#[49, 50, 51, 52, 53, 54, 55, 56, 57, 48, 49, 50, 51, 52, 53, 54, 55, 56, 57, 48, 49]⟩ : ByteArray)).bind fun t345 => (if t345 = true then (some false) else ((word_Number.f (⟨#[49, 50, 51, 52, 53, 54, 55, 56, 57, 48, 49, 50, 51, 52, 53, 54, 55, 56, 57, 48]⟩ : ByteArray)).bind fun t346 => (if t346 = true then ((word_Good.f (⟨#[97, 98, 99, 100, 101, 102, 103, 104, 105, 106, 107, 108, 109, 110, 111, 112, 113, 114, 115, 116, 117]⟩ : ByteArray)).bind fun t347 => (if t347 = true then (some false) else ((word_Join.f ([] : List ByteArray)).bind fun t348 => (if t348.toList = ([] : List UInt8) then (some true) else (some false))))) else (some false)))))) = some true := H
                                      have A33 := Aside0.mk A330
                                      clear A330
                                      by_cases c34 : t344 = true
                                      · subst c34
                                        have H1 : (some false) = some true := by (rw [if_pos rfl] at H); first | done | exact H
                                        clear H
                                        have H := H1
                                        clear H1
                                        exact absurd H (by simp)
                                      · replace c34 := Bool.eq_false_iff.mpr c34
                                        subst c34
                                        have H1 : ((word_Number.f (⟨#[49, 50, 51, 52, 53, 54, 55, 56, 57, 48, 49, 50, 51, 52, 53, 54, 55, 56, 57, 48, 49]⟩ : ByteArray)).bind fun t345 => (if t345 = true then (some false) else ((word_Number.f (⟨#[49, 50, 51, 52, 53, 54, 55, 56, 57, 48, 49, 50, 51, 52, 53, 54, 55, 56, 57, 48]⟩ : ByteArray)).bind fun t346 => (if t346 = true then ((word_Good.f (⟨#[97, 98, 99, 100, 101, 102, 103, 104, 105, 106, 107, 108, 109, 110, 111, 112, 113, 114, 115, 116, 117]⟩ : ByteArray)).bind fun t347 => (if t347 = true then (some false) else ((word_Join.f ([] : List ByteArray)).bind fun t348 => (if t348.toList = ([] : List UInt8) then (some true) else (some false))))) else (some false))))) = some true := by (rw [if_neg (show ¬ (false = true) by decide)] at H); first | done | exact H
                                        clear H
                                        have H := H1
                                        clear H1
                                        replace H := Option.bind_eq_some_iff.mp H
                                        obtain ⟨t345, A350, H⟩ := H
                                        replace H : (if t345 = true then (some false) else ((word_Number.f (⟨#[49, 50, 51, 52, 53, 54, 55, 56, 57, 48, 49, 50, 51, 52, 53, 54, 55, 56, 57, 48]⟩ : ByteArray)).bind fun t346 => (if t346 = true then ((word_Good.f (⟨#[97, 98, 99, 100, 101, 102, 103, 104, 105, 106, 107, 108, 109, 110, 111, 112, 113, 114, 115, 116, 117]⟩ : ByteArray)).bind fun t347 => (if t347 = true then (some false) else ((word_Join.f ([] : List ByteArray)).bind fun t348 => (if t348.toList = ([] : List UInt8) then (some true) else (some false))))) else (some false)))) = some true := H
                                        have A35 := Aside0.mk A350
                                        clear A350
                                        by_cases c36 : t345 = true
                                        · subst c36
                                          have H1 : (some false) = some true := by (rw [if_pos rfl] at H); first | done | exact H
                                          clear H
                                          have H := H1
                                          clear H1
                                          exact absurd H (by simp)
                                        · replace c36 := Bool.eq_false_iff.mpr c36
                                          subst c36
                                          have H1 : ((word_Number.f (⟨#[49, 50, 51, 52, 53, 54, 55, 56, 57, 48, 49, 50, 51, 52, 53, 54, 55, 56, 57, 48]⟩ : ByteArray)).bind fun t346 => (if t346 = true then ((word_Good.f (⟨#[97, 98, 99, 100, 101, 102, 103, 104, 105, 106, 107, 108, 109, 110, 111, 112, 113, 114, 115, 116, 117]⟩ : ByteArray)).bind fun t347 => (if t347 = true then (some false) else ((word_Join.f ([] : List ByteArray)).bind fun t348 => (if t348.toList = ([] : List UInt8) then (some true) else (some false))))) else (some false))) = some true := by (rw [if_neg (show ¬ (false = true) by decide)] at H); first | done | exact H
                                          clear H
                                          have H := H1
                                          clear H1
                                          replace H := Option.bind_eq_some_iff.mp H
                                          obtain ⟨t346, A370, H⟩ := H
                                          replace H : (if t346 = true then ((word_Good.f (⟨#[97, 98, 99, 100, 101, 102, 103, 104, 105, 106, 107, 108, 109, 110, 111, 112, 113, 114, 115, 116, 117]⟩ : ByteArray)).bind fun t347 => (if t347 = true then (some false) else ((word_Join.f ([] : List ByteArray)).bind fun t348 => (if t348.toList = ([] : List UInt8) then (some true) else (some false))))) else (some false)) = some true := H
                                          have A37 := Aside0.mk A370
                                          clear A370
                                          by_cases c38 : t346 = true
                                          · subst c38
                                            have H1 : ((word_Good.f (⟨#[97, 98, 99, 100, 101, 102, 103, 104, 105, 106, 107, 108, 109, 110, 111, 112, 113, 114, 115, 116, 117]⟩ : ByteArray)).bind fun t347 => (if t347 = true then (some false) else ((word_Join.f ([] : List ByteArray)).bind fun t348 => (if t348.toList = ([] : List UInt8) then (some true) else (some false))))) = some true := by (rw [if_pos rfl] at H); first | done | exact H
                                            clear H
                                            have H := H1
                                            clear H1
                                            replace H := Option.bind_eq_some_iff.mp H
                                            obtain ⟨t347, A390, H⟩ := H
                                            replace H : (if t347 = true then (some false) else ((word_Join.f ([] : List ByteArray)).bind fun t348 => (if t348.toList = ([] : List UInt8) then (some true) else (some false)))) = some true := H
                                            have A39 := Aside0.mk A390
                                            clear A390
                                            by_cases c40 : t347 = true
                                            · subst c40
                                              have H1 : (some false) = some true := by (rw [if_pos rfl] at H); first | done | exact H
                                              clear H
                                              have H := H1
                                              clear H1
                                              exact absurd H (by simp)
                                            · replace c40 := Bool.eq_false_iff.mpr c40
                                              subst c40
                                              have H1 : ((word_Join.f ([] : List ByteArray)).bind fun t348 => (if t348.toList = ([] : List UInt8) then (some true) else (some false))) = some true := by (rw [if_neg (show ¬ (false = true) by decide)] at H); first | done | exact H
                                              clear H
                                              have H := H1
                                              clear H1
                                              replace H := Option.bind_eq_some_iff.mp H
                                              obtain ⟨t348, A410, H⟩ := H
                                              replace H : (if t348.toList = ([] : List UInt8) then (some true) else (some false)) = some true := H
                                              have A41 := Aside0.mk A410
                                              clear A410
                                              by_cases c42 : t348.toList = ([] : List UInt8)
                                              · rw [if_pos c42] at H
                                                have c42b0 : (t348.toList == ([] : List UInt8)) = true := beq_iff_eq.mpr c42
                                                have c42b1 : (t348.toList != ([] : List UInt8)) = false := bne_eq_false_iff_eq.mpr c42
                                                clear c42
                                                clear H
                                                go_wp2_with (first | ((with_reducible refine gate_callee (f := 29) rfl ?_); refine goesL_ (some 35) rfl rfl Tryd.func29 (by kernel_rfl) rfl #[.string x5_2] rfl (by (try simp only [List.map_toArray, List.map_cons, List.map_nil]); first | done | rfl | (simp only [List.length_drop, List.length_take]; rfl)) ?_; (with_reducible refine (word_Split.calls k2 x5_2 t318 t319 _ A15.out ?side1).mono ?_); (case side1 => exact Glob.below HG.out (by repeat (first | (with_reducible first | exact HB.out | apply below_alloc | apply pw_below_drewN | apply below_drew1) | exact HB.out))); rintro e w43 ⟨v320, rfl, ho0, hb⟩; refine ⟨_, rfl, ?_⟩; have n0_ := Aside0.mk (Kd.R_lower ho0 (below_size (by repeat (first | (with_reducible first | exact HB.out | apply below_alloc | apply pw_below_drewN | apply below_drew1) | exact HB.out)))); have n1_ := Aside0.mk (below_step (by repeat (first | (with_reducible first | exact HB.out | apply below_alloc | apply pw_below_drewN | apply below_drew1) | exact HB.out)) hb); clear HB; have HO321 := n0_; have HB := n1_; clear n0_ n1_; (try clear hb); (try clear hb2); (try clear hk); (try clear hi); (try clear ho0)) | ((with_reducible refine gate_dst (N := 38) rfl ?_); (try (refine gate_guard (by rfl) ?_; dsimp only)); refine Kd.R_lit Kd.string _ 9 ?hg (N := 38) ?hd (xs := ([(⟨#[97]⟩ : ByteArray), (⟨#[97, 110, 100]⟩ : ByteArray), (⟨#[97, 110, 100]⟩ : ByteArray), (⟨#[98]⟩ : ByteArray)] : List ByteArray)) (inner := [.string (⟨#[97]⟩ : ByteArray), .string (⟨#[97, 110, 100]⟩ : ByteArray), .string (⟨#[97, 110, 100]⟩ : ByteArray), .string (⟨#[98]⟩ : ByteArray)]) (ok := fun _ => True) (okp := fun _ => True) ?hr ?hp (fun _ hk => hk) trivial (Below.refl _ _) (Nat.le_refl _) (by simp) ?_; (case hd => rfl); (case hg => rfl); (case hr => first | (go_simp; done) | (go_simp; rfl)); (case hp => exact (Reps.one (show Kd.M Kd.string _ _ _ (⟨#[97]⟩ : ByteArray) [.string (⟨#[97]⟩ : ByteArray)] from rfl) (Reps.one (show Kd.M Kd.string _ _ _ (⟨#[97, 110, 100]⟩ : ByteArray) [.string (⟨#[97, 110, 100]⟩ : ByteArray)] from rfl) (Reps.one (show Kd.M Kd.string _ _ _ (⟨#[97, 110, 100]⟩ : ByteArray) [.string (⟨#[97, 110, 100]⟩ : ByteArray)] from rfl) (Reps.one (show Kd.M Kd.string _ _ _ (⟨#[98]⟩ : ByteArray) [.string (⟨#[98]⟩ : ByteArray)] from rfl) (Reps.none _ _)))))); intro v323 w44 ho45 hb hg_ hnew_; clear hg_ hnew_; (first | rw [← Ny322.out] at ho45 | (simp only [Int.reduceToNat] at ho45; rw [← Ny322.out] at ho45)); have n0_ := Aside0.mk (Kd.R_elder' (by (with_reducible repeat (first | apply Kd.R_alloc | apply Kd.R_drewN | apply Kd.R_drew)); exact HO321.out) (Kd.R_base ho45) hb); have n1_ := Aside0.mk (Kd.R_lower (Kd.R_new' ho45 (Kd.R_lt (by (with_reducible repeat (first | apply Kd.R_alloc | apply Kd.R_drewN | apply Kd.R_drew)); exact HO321.out))) (below_size (by repeat (first | (with_reducible first | exact HB.out | apply below_alloc | apply pw_below_drewN | apply below_drew1) | exact HB.out)))); have n2_ := Aside0.mk (below_step (by repeat (first | (with_reducible first | exact HB.out | apply below_alloc | apply pw_below_drewN | apply below_drew1) | exact HB.out)) hb); clear HO321; clear HB; have HO321 := n0_; have HO324 := n1_; have HB := n2_; clear n0_ n1_ n2_; clear hb ho45; obtain ⟨Ao46, co46, eo46⟩ := Kd.R_slice HO324.out; subst eo46) | ((with_reducible refine gate_callee (f := 30) rfl ?_); refine goesL_ (some 39) rfl rfl Tryd.func30 (by kernel_rfl) rfl #[.slice Ao46 y322.length co46, .string (⟨#[97, 110, 100]⟩ : ByteArray)] rfl (by (try simp only [List.map_toArray, List.map_cons, List.map_nil]); first | done | rfl | (simp only [List.length_drop, List.length_take]; rfl)) ?_; (with_reducible refine (word_Cut.calls k2 _ _ y322 (⟨#[97, 110, 100]⟩ : ByteArray) t325 _ ?side1 ?side2 A16.out ?side3).mono ?_); (case side1 => repeat (first | exact (Kd.R_reads' HO324.out).2.2 | (with_reducible refine Kd.C_alloc ?_ _) | (with_reducible refine Kd.C_drewN ?_ _) | (with_reducible refine Kd.C_drew ?_))); (case side2 => exact (Kd.R_reads' HO324.out).2.1); (case side3 => exact Glob.below HG.out (by repeat (first | (with_reducible first | exact HB.out | apply below_alloc | apply pw_below_drewN | apply below_drew1) | exact HB.out))); rintro e w47 ⟨v326, rfl, ho0, hb⟩; refine ⟨_, rfl, ?_⟩; have n0_ := Aside0.mk (Kd.R_below (by (with_reducible repeat (first | apply Kd.R_alloc | apply Kd.R_drewN | apply Kd.R_drew)); exact HO321.out) hb); have n1_ := Aside0.mk (Kd.R_below (by (with_reducible repeat (first | apply Kd.R_alloc | apply Kd.R_drewN | apply Kd.R_drew)); exact HO324.out) hb); have n2_ := Aside0.mk (Kd.S_lower (Kd.S_new' (Kd.S_new' ho0 (Kd.R_lt (by (with_reducible repeat (first | apply Kd.R_alloc | apply Kd.R_drewN | apply Kd.R_drew)); exact HO321.out))) (Kd.R_lt (by (with_reducible repeat (first | apply Kd.R_alloc | apply Kd.R_drewN | apply Kd.R_drew)); exact HO324.out))) (below_size (by repeat (first | (with_reducible first | exact HB.out | apply below_alloc | apply pw_below_drewN | apply below_drew1) | exact HB.out)))); have n3_ := Aside0.mk (below_step (by repeat (first | (with_reducible first | exact HB.out | apply below_alloc | apply pw_below_drewN | apply below_drew1) | exact HB.out)) hb); clear HO321; clear HO324; clear HB; have HO321 := n0_; have HO324 := n1_; have HO327 := n2_; have HB := n3_; clear n0_ n1_ n2_ n3_; (try clear hb); (try clear hb2); (try clear hk); (try clear hi); (try clear ho0); obtain ⟨Ao48, co48, eo48⟩ := Kd.S_slice HO327.out; subst eo48; have p328 : 0 ≤ (0 : Int) := (by omega); have q328 : 0 < (t325.length : Int) := of_decide_eq_true (by first | (with_reducible assumption) | assumption); obtain ⟨ad328, A328_0, c328_0, e328, hx328_0, hl328_0, hi328_0⟩ := at_L2 (Kd.S_reads' HO327.out).2.2 0 p328 q328; cases e328; obtain ⟨ce328, hce328, hMe328, hcc328⟩ := Kd.S_get HO327.out [] 0 p328 (by first | exact q328 | exact of_decide_eq_true (by first | (with_reducible assumption) | assumption) | (have e_ := (Kd.S_reads' HO327.out).1; omega)); obtain ⟨ve328_0, rfl, ge328_0⟩ := hMe328; have hv328_0 := hcc328 0 _ rfl; rw [Nat.add_zero, show ((Kd.slice 9 Kd.string)).sz = 1 from rfl, Nat.mul_one] at hv328_0; replace hv328_0 := Option.some.inj (hv328_0.symm.trans hx328_0); rw [hv328_0] at ge328_0; have HL328_0 := Aside0.mk (show Kd.R Kd.string 9 _ _ _ _ (rd_L2 t325 0) from ge328_0); clear hv328_0 ge328_0; clear hcc328 hce328; have qi328 : (0 < t325.length) = True := eq_true (by omega); (try rw [show ((0 : Int)).toNat = 0 from rfl] at hx328_0); (try rw [Addr.add_zero'] at hx328_0); have HR328_0 := Aside0.mk hi328_0; have HC328_0 := Aside0.mk hl328_0; clear hi328_0 hl328_0; replace p328 := eq_true p328; replace q328 := eq_true q328) | ((with_reducible refine gate_dst (N := 51) rfl ?_); (try (refine gate_guard (by rfl) ?_; dsimp only)); refine Kd.R_lit Kd.string _ 9 ?hg (N := 51) ?hd (xs := ([(⟨#[97]⟩ : ByteArray)] : List ByteArray)) (inner := [.string (⟨#[97]⟩ : ByteArray)]) (ok := fun _ => True) (okp := fun _ => True) ?hr ?hp (fun _ hk => hk) trivial (Below.refl _ _) (Nat.le_refl _) (by simp) ?_; (case hd => rfl); (case hg => rfl); (case hr => first | (go_simp; done) | (go_simp; rfl)); (case hp => exact (Reps.one (show Kd.M Kd.string _ _ _ (⟨#[97]⟩ : ByteArray) [.string (⟨#[97]⟩ : ByteArray)] from rfl) (Reps.none _ _))); intro v330 w49 ho50 hb hg_ hnew_; clear hg_ hnew_; (first | rw [← Ny329.out] at ho50 | (simp only [Int.reduceToNat] at ho50; rw [← Ny329.out] at ho50)); have n0_ := Aside0.mk (Kd.R_elder' (by (with_reducible repeat (first | apply Kd.R_alloc | apply Kd.R_drewN | apply Kd.R_drew)); exact HO321.out) (Kd.R_base ho50) hb); have n1_ := Aside0.mk (Kd.R_elder' (by (with_reducible repeat (first | apply Kd.R_alloc | apply Kd.R_drewN | apply Kd.R_drew)); exact HO324.out) (Kd.R_base ho50) hb); have n2_ := Aside0.mk (Kd.S_elder' (by (with_reducible repeat (first | apply Kd.S_alloc | apply Kd.S_drewN | apply Kd.S_drew)); exact HO327.out) (Kd.R_base ho50) hb); have n3_ := Aside0.mk (Kd.R_elder' (by (with_reducible repeat (first | apply Kd.R_alloc | apply Kd.R_drewN | apply Kd.R_drew)); exact HL328_0.out) (Kd.R_base ho50) hb); have n4_ := Aside0.mk (Kd.R_lower (Kd.R_new' (Kd.R_new' (Kd.R_new' ho50 (Kd.R_lt (by (with_reducible repeat (first | apply Kd.R_alloc | apply Kd.R_drewN | apply Kd.R_drew)); exact HO321.out))) (Kd.R_lt (by (with_reducible repeat (first | apply Kd.R_alloc | apply Kd.R_drewN | apply Kd.R_drew)); exact HO324.out))) (Kd.R_lt (by (with_reducible repeat (first | apply Kd.R_alloc | apply Kd.R_drewN | apply Kd.R_drew)); exact HL328_0.out))) (below_size (by repeat (first | (with_reducible first | exact HB.out | apply below_alloc | apply pw_below_drewN | apply below_drew1) | exact HB.out)))); have n5_ := Aside0.mk (Kd.C_below (by repeat (first | (with_reducible exact HR328_0.out) | (with_reducible refine Kd.C_alloc ?_ _) | (with_reducible refine Kd.C_drewN ?_ _) | (with_reducible refine Kd.C_drew ?_) | exact HR328_0.out)) hb); have n6_ := Aside0.mk (below_step (by repeat (first | (with_reducible first | exact HB.out | apply below_alloc | apply pw_below_drewN | apply below_drew1) | exact HB.out)) hb); clear HO321; clear HO324; clear HO327; clear HL328_0; clear HR328_0; clear HB; have HO321 := n0_; have HO324 := n1_; have HO327 := n2_; have HL328_0 := n3_; have HO331 := n4_; have HR328_0 := n5_; have HB := n6_; clear n0_ n1_ n2_ n3_ n4_ n5_ n6_; clear hb ho50; obtain ⟨Ao51, co51, eo51⟩ := Kd.R_slice HO331.out; subst eo51) | (go_at_call 31; (with_reducible refine (cubitlaw6_texts.calls k2 _ _ (rd_L2 t325 0) _ _ y329 true _ ?side1 ?side2 ?side3 ?side4 A20.out ?side5).mono ?_); (case side1 => repeat (first | exact (by repeat (first | (with_reducible exact HR328_0.out) | (with_reducible refine Kd.C_alloc ?_ _) | (with_reducible refine Kd.C_drewN ?_ _) | (with_reducible refine Kd.C_drew ?_) | exact HR328_0.out)) | (with_reducible refine Kd.C_alloc ?_ _) | (with_reducible refine Kd.C_drewN ?_ _) | (with_reducible refine Kd.C_drew ?_))); (case side2 => exact HC328_0.out); (case side3 => repeat (first | exact (Kd.R_reads' HO331.out).2.2 | (with_reducible refine Kd.C_alloc ?_ _) | (with_reducible refine Kd.C_drewN ?_ _) | (with_reducible refine Kd.C_drew ?_))); (case side4 => exact (Kd.R_reads' HO331.out).2.1); (case side5 => exact Glob.below HG.out (by repeat (first | (with_reducible first | exact HB.out | apply below_alloc | apply pw_below_drewN | apply below_drew1) | exact HB.out))); rintro e w' ⟨rfl, ⟨nd, rfl⟩⟩; have p333 : 0 ≤ (1 : Int) := (by omega); have q333 : 1 < (t325.length : Int) := of_decide_eq_true (by first | (with_reducible assumption) | assumption); obtain ⟨ad333, A333_0, c333_0, e333, hx333_0, hl333_0, hi333_0⟩ := at_L2 (Kd.S_reads' HO327.out).2.2 1 p333 q333; obtain rfl : ad328 = ad333 := (by injection e333); obtain ⟨ce333, hce333, hMe333, hcc333⟩ := Kd.S_get HO327.out [] 1 p333 (by first | exact q333 | exact of_decide_eq_true (by first | (with_reducible assumption) | assumption) | (have e_ := (Kd.S_reads' HO327.out).1; omega)); obtain ⟨ve333_0, rfl, ge333_0⟩ := hMe333; have hv333_0 := hcc333 0 _ rfl; rw [Nat.add_zero, show ((Kd.slice 9 Kd.string)).sz = 1 from rfl, Nat.mul_one] at hv333_0; replace hv333_0 := Option.some.inj (hv333_0.symm.trans hx333_0); rw [hv333_0] at ge333_0; have HL333_0 := Aside0.mk (show Kd.R Kd.string 9 _ _ _ _ (rd_L2 t325 1) from ge333_0); clear hv333_0 ge333_0; clear hcc333 hce333; (try simp only [show (1 : Int).toNat = 1 from rfl, Nat.reduceMul, Nat.reduceEqDiff, Go.Addr.add, ↓reduceIte] at hx333_0); have qi333 : (1 < t325.length) = True := eq_true (by omega); (try rw [show ((1 : Int)).toNat = 1 from rfl] at hx333_0); have HR333_0 := Aside0.mk hi333_0; have HC333_0 := Aside0.mk hl333_0; clear hi333_0 hl333_0; replace p333 := eq_true p333; replace q333 := eq_true q333; have p334 : 0 ≤ (2 : Int) := (by omega); have q334 : 2 < (t325.length : Int) := of_decide_eq_true (by first | (with_reducible assumption) | assumption); obtain ⟨ad334, A334_0, c334_0, e334, hx334_0, hl334_0, hi334_0⟩ := at_L2 (Kd.S_reads' HO327.out).2.2 2 p334 q334; obtain rfl : ad328 = ad334 := (by injection e334); obtain ⟨ce334, hce334, hMe334, hcc334⟩ := Kd.S_get HO327.out [] 2 p334 (by first | exact q334 | exact of_decide_eq_true (by first | (with_reducible assumption) | assumption) | (have e_ := (Kd.S_reads' HO327.out).1; omega)); obtain ⟨ve334_0, rfl, ge334_0⟩ := hMe334; have hv334_0 := hcc334 0 _ rfl; rw [Nat.add_zero, show ((Kd.slice 9 Kd.string)).sz = 1 from rfl, Nat.mul_one] at hv334_0; replace hv334_0 := Option.some.inj (hv334_0.symm.trans hx334_0); rw [hv334_0] at ge334_0; have HL334_0 := Aside0.mk (show Kd.R Kd.string 9 _ _ _ _ (rd_L2 t325 2) from ge334_0); clear hv334_0 ge334_0; clear hcc334 hce334; (try simp only [show (2 : Int).toNat = 2 from rfl, Nat.reduceMul, Nat.reduceEqDiff, Go.Addr.add, ↓reduceIte] at hx334_0); have qi334 : (2 < t325.length) = True := eq_true (by omega); (try rw [show ((2 : Int)).toNat = 2 from rfl] at hx334_0); have HR334_0 := Aside0.mk hi334_0; have HC334_0 := Aside0.mk hl334_0; clear hi334_0 hl334_0; replace p334 := eq_true p334; replace q334 := eq_true q334) | ((with_reducible refine gate_dst (N := 65) rfl ?_); (try (refine gate_guard (by rfl) ?_; dsimp only)); refine Kd.R_lit Kd.string _ 9 ?hg (N := 65) ?hd (xs := ([(⟨#[98]⟩ : ByteArray)] : List ByteArray)) (inner := [.string (⟨#[98]⟩ : ByteArray)]) (ok := fun _ => True) (okp := fun _ => True) ?hr ?hp (fun _ hk => hk) trivial (Below.refl _ _) (Nat.le_refl _) (by simp) ?_; (case hd => rfl); (case hg => rfl); (case hr => first | (go_simp; done) | (go_simp; rfl)); (case hp => exact (Reps.one (show Kd.M Kd.string _ _ _ (⟨#[98]⟩ : ByteArray) [.string (⟨#[98]⟩ : ByteArray)] from rfl) (Reps.none _ _))); intro v336 w52 ho53 hb hg_ hnew_; clear hg_ hnew_; (first | rw [← Ny335.out] at ho53 | (simp only [Int.reduceToNat] at ho53; rw [← Ny335.out] at ho53)); have n0_ := Aside0.mk (Kd.R_elder' (by (with_reducible repeat (first | apply Kd.R_alloc | apply Kd.R_drewN | apply Kd.R_drew)); exact HO321.out) (Kd.R_base ho53) hb); have n1_ := Aside0.mk (Kd.R_elder' (by (with_reducible repeat (first | apply Kd.R_alloc | apply Kd.R_drewN | apply Kd.R_drew)); exact HO324.out) (Kd.R_base ho53) hb); have n2_ := Aside0.mk (Kd.S_elder' (by (with_reducible repeat (first | apply Kd.S_alloc | apply Kd.S_drewN | apply Kd.S_drew)); exact HO327.out) (Kd.R_base ho53) hb); have n3_ := Aside0.mk (Kd.R_elder' (by (with_reducible repeat (first | apply Kd.R_alloc | apply Kd.R_drewN | apply Kd.R_drew)); exact HL328_0.out) (Kd.R_base ho53) hb); have n4_ := Aside0.mk (Kd.R_elder' (by (with_reducible repeat (first | apply Kd.R_alloc | apply Kd.R_drewN | apply Kd.R_drew)); exact HO331.out) (Kd.R_base ho53) hb); have n5_ := Aside0.mk (Kd.R_elder' (by (with_reducible repeat (first | apply Kd.R_alloc | apply Kd.R_drewN | apply Kd.R_drew)); exact HL333_0.out) (Kd.R_base ho53) hb); have n6_ := Aside0.mk (Kd.R_elder' (by (with_reducible repeat (first | apply Kd.R_alloc | apply Kd.R_drewN | apply Kd.R_drew)); exact HL334_0.out) (Kd.R_base ho53) hb); have n7_ := Aside0.mk (Kd.R_lower (Kd.R_new' (Kd.R_new' (Kd.R_new' (Kd.R_new' (Kd.R_new' (Kd.R_new' ho53 (Kd.R_lt (by (with_reducible repeat (first | apply Kd.R_alloc | apply Kd.R_drewN | apply Kd.R_drew)); exact HO321.out))) (Kd.R_lt (by (with_reducible repeat (first | apply Kd.R_alloc | apply Kd.R_drewN | apply Kd.R_drew)); exact HO324.out))) (Kd.R_lt (by (with_reducible repeat (first | apply Kd.R_alloc | apply Kd.R_drewN | apply Kd.R_drew)); exact HL328_0.out))) (Kd.R_lt (by (with_reducible repeat (first | apply Kd.R_alloc | apply Kd.R_drewN | apply Kd.R_drew)); exact HO331.out))) (Kd.R_lt (by (with_reducible repeat (first | apply Kd.R_alloc | apply Kd.R_drewN | apply Kd.R_drew)); exact HL333_0.out))) (Kd.R_lt (by (with_reducible repeat (first | apply Kd.R_alloc | apply Kd.R_drewN | apply Kd.R_drew)); exact HL334_0.out))) (below_size (by repeat (first | (with_reducible first | exact HB.out | apply below_alloc | apply pw_below_drewN | apply below_drew1) | exact HB.out)))); have n8_ := Aside0.mk (Kd.C_below (by repeat (first | (with_reducible exact HR328_0.out) | (with_reducible refine Kd.C_alloc ?_ _) | (with_reducible refine Kd.C_drewN ?_ _) | (with_reducible refine Kd.C_drew ?_) | exact HR328_0.out)) hb); have n9_ := Aside0.mk (Kd.C_below (by repeat (first | (with_reducible exact HR333_0.out) | (with_reducible refine Kd.C_alloc ?_ _) | (with_reducible refine Kd.C_drewN ?_ _) | (with_reducible refine Kd.C_drew ?_) | exact HR333_0.out)) hb); have n10_ := Aside0.mk (Kd.C_below (by repeat (first | (with_reducible exact HR334_0.out) | (with_reducible refine Kd.C_alloc ?_ _) | (with_reducible refine Kd.C_drewN ?_ _) | (with_reducible refine Kd.C_drew ?_) | exact HR334_0.out)) hb); have n11_ := Aside0.mk (below_step (by repeat (first | (with_reducible first | exact HB.out | apply below_alloc | apply pw_below_drewN | apply below_drew1) | exact HB.out)) hb); clear HO321; clear HO324; clear HO327; clear HL328_0; clear HO331; clear HL333_0; clear HL334_0; clear HR328_0; clear HR333_0; clear HR334_0; clear HB; have HO321 := n0_; have HO324 := n1_; have HO327 := n2_; have HL328_0 := n3_; have HO331 := n4_; have HL333_0 := n5_; have HL334_0 := n6_; have HO337 := n7_; have HR328_0 := n8_; have HR333_0 := n9_; have HR334_0 := n10_; have HB := n11_; clear n0_ n1_ n2_ n3_ n4_ n5_ n6_ n7_ n8_ n9_ n10_ n11_; clear hb ho53; obtain ⟨Ao54, co54, eo54⟩ := Kd.R_slice HO337.out; subst eo54) | (go_at_call 31; (with_reducible refine (cubitlaw6_texts.calls k2 _ _ (rd_L2 t325 2) _ _ y335 true _ ?side1 ?side2 ?side3 ?side4 A25.out ?side5).mono ?_); (case side1 => repeat (first | exact (by repeat (first | (with_reducible exact HR334_0.out) | (with_reducible refine Kd.C_alloc ?_ _) | (with_reducible refine Kd.C_drewN ?_ _) | (with_reducible refine Kd.C_drew ?_) | exact HR334_0.out)) | (with_reducible refine Kd.C_alloc ?_ _) | (with_reducible refine Kd.C_drewN ?_ _) | (with_reducible refine Kd.C_drew ?_))); (case side2 => exact HC334_0.out); (case side3 => repeat (first | exact (Kd.R_reads' HO337.out).2.2 | (with_reducible refine Kd.C_alloc ?_ _) | (with_reducible refine Kd.C_drewN ?_ _) | (with_reducible refine Kd.C_drew ?_))); (case side4 => exact (Kd.R_reads' HO337.out).2.1); (case side5 => exact Glob.below HG.out (by repeat (first | (with_reducible first | exact HB.out | apply below_alloc | apply pw_below_drewN | apply below_drew1) | exact HB.out))); rintro e w' ⟨rfl, ⟨nd, rfl⟩⟩) | (go_at_call 30; (refine (word_Cut.calls k2 _ _ ([] : List ByteArray) (⟨#[120]⟩ : ByteArray) t339 _ ?side1 ?side2 A27.out ?side3).mono ?_); (case side1 => exact Kd.C_nil _ _); (case side2 => exact Nat.le_refl _); (case side3 => exact Glob.below HG.out (by repeat (first | (with_reducible first | exact HB.out | apply below_alloc | apply pw_below_drewN | apply below_drew1) | exact HB.out))); rintro e w55 ⟨v340, rfl, ho0, hb⟩; have n0_ := Aside0.mk (Kd.R_below (by (with_reducible repeat (first | apply Kd.R_alloc | apply Kd.R_drewN | apply Kd.R_drew)); exact HO321.out) hb); have n1_ := Aside0.mk (Kd.R_below (by (with_reducible repeat (first | apply Kd.R_alloc | apply Kd.R_drewN | apply Kd.R_drew)); exact HO324.out) hb); have n2_ := Aside0.mk (Kd.S_elder' (by (with_reducible repeat (first | apply Kd.S_alloc | apply Kd.S_drewN | apply Kd.S_drew)); exact HO327.out) (Kd.S_base ho0) hb); have n3_ := Aside0.mk (Kd.R_below (by (with_reducible repeat (first | apply Kd.R_alloc | apply Kd.R_drewN | apply Kd.R_drew)); exact HL328_0.out) hb); have n4_ := Aside0.mk (Kd.R_below (by (with_reducible repeat (first | apply Kd.R_alloc | apply Kd.R_drewN | apply Kd.R_drew)); exact HO331.out) hb); have n5_ := Aside0.mk (Kd.R_below (by (with_reducible repeat (first | apply Kd.R_alloc | apply Kd.R_drewN | apply Kd.R_drew)); exact HL333_0.out) hb); have n6_ := Aside0.mk (Kd.R_below (by (with_reducible repeat (first | apply Kd.R_alloc | apply Kd.R_drewN | apply Kd.R_drew)); exact HL334_0.out) hb); have n7_ := Aside0.mk (Kd.R_below (by (with_reducible repeat (first | apply Kd.R_alloc | apply Kd.R_drewN | apply Kd.R_drew)); exact HO337.out) hb); have n8_ := Aside0.mk (Kd.S_lower (Kd.S_new' (Kd.S_new' (Kd.S_new' (Kd.S_new' (Kd.S_new' (Kd.S_new' (Kd.S_new' (Kd.S_new' ho0 (Kd.R_lt (by (with_reducible repeat (first | apply Kd.R_alloc | apply Kd.R_drewN | apply Kd.R_drew)); exact HO321.out))) (Kd.R_lt (by (with_reducible repeat (first | apply Kd.R_alloc | apply Kd.R_drewN | apply Kd.R_drew)); exact HO324.out))) (Kd.S_lt (by (with_reducible repeat (first | apply Kd.S_alloc | apply Kd.S_drewN | apply Kd.S_drew)); exact HO327.out))) (Kd.R_lt (by (with_reducible repeat (first | apply Kd.R_alloc | apply Kd.R_drewN | apply Kd.R_drew)); exact HL328_0.out))) (Kd.R_lt (by (with_reducible repeat (first | apply Kd.R_alloc | apply Kd.R_drewN | apply Kd.R_drew)); exact HO331.out))) (Kd.R_lt (by (with_reducible repeat (first | apply Kd.R_alloc | apply Kd.R_drewN | apply Kd.R_drew)); exact HL333_0.out))) (Kd.R_lt (by (with_reducible repeat (first | apply Kd.R_alloc | apply Kd.R_drewN | apply Kd.R_drew)); exact HL334_0.out))) (Kd.R_lt (by (with_reducible repeat (first | apply Kd.R_alloc | apply Kd.R_drewN | apply Kd.R_drew)); exact HO337.out))) (below_size (by repeat (first | (with_reducible first | exact HB.out | apply below_alloc | apply pw_below_drewN | apply below_drew1) | exact HB.out)))); have n9_ := Aside0.mk (Kd.C_below (by repeat (first | (with_reducible exact HR328_0.out) | (with_reducible refine Kd.C_alloc ?_ _) | (with_reducible refine Kd.C_drewN ?_ _) | (with_reducible refine Kd.C_drew ?_) | exact HR328_0.out)) hb); have n10_ := Aside0.mk (Kd.C_below (by repeat (first | (with_reducible exact HR333_0.out) | (with_reducible refine Kd.C_alloc ?_ _) | (with_reducible refine Kd.C_drewN ?_ _) | (with_reducible refine Kd.C_drew ?_) | exact HR333_0.out)) hb); have n11_ := Aside0.mk (Kd.C_below (by repeat (first | (with_reducible exact HR334_0.out) | (with_reducible refine Kd.C_alloc ?_ _) | (with_reducible refine Kd.C_drewN ?_ _) | (with_reducible refine Kd.C_drew ?_) | exact HR334_0.out)) hb); have n12_ := Aside0.mk (below_step (by repeat (first | (with_reducible first | exact HB.out | apply below_alloc | apply pw_below_drewN | apply below_drew1) | exact HB.out)) hb); clear HO321; clear HO324; clear HO327; clear HL328_0; clear HO331; clear HL333_0; clear HL334_0; clear HO337; clear HR328_0; clear HR333_0; clear HR334_0; clear HB; have HO321 := n0_; have HO324 := n1_; have HO327 := n2_; have HL328_0 := n3_; have HO331 := n4_; have HL333_0 := n5_; have HL334_0 := n6_; have HO337 := n7_; have HO341 := n8_; have HR328_0 := n9_; have HR333_0 := n10_; have HR334_0 := n11_; have HB := n12_; clear n0_ n1_ n2_ n3_ n4_ n5_ n6_ n7_ n8_ n9_ n10_ n11_ n12_; (try clear hb); (try clear hb2); (try clear hk); (try clear hi); (try clear ho0); obtain ⟨Ao56, co56, eo56⟩ := Kd.S_slice HO341.out; subst eo56) | (go_at_call 32; (with_reducible refine (word_Number.calls (⟨#[48]⟩ : ByteArray) false _ A29.out ?side1).mono ?_); (case side1 => exact Glob.below HG.out (by repeat (first | (with_reducible first | exact HB.out | apply below_alloc | apply pw_below_drewN | apply below_drew1) | exact HB.out))); rintro e w57 ⟨rfl, hb⟩; have n0_ := Aside0.mk (Kd.R_below (by (with_reducible repeat (first | apply Kd.R_alloc | apply Kd.R_drewN | apply Kd.R_drew)); exact HO321.out) hb); have n1_ := Aside0.mk (Kd.R_below (by (with_reducible repeat (first | apply Kd.R_alloc | apply Kd.R_drewN | apply Kd.R_drew)); exact HO324.out) hb); have n2_ := Aside0.mk (Kd.S_below (by (with_reducible repeat (first | apply Kd.S_alloc | apply Kd.S_drewN | apply Kd.S_drew)); exact HO327.out) hb); have n3_ := Aside0.mk (Kd.R_below (by (with_reducible repeat (first | apply Kd.R_alloc | apply Kd.R_drewN | apply Kd.R_drew)); exact HL328_0.out) hb); have n4_ := Aside0.mk (Kd.R_below (by (with_reducible repeat (first | apply Kd.R_alloc | apply Kd.R_drewN | apply Kd.R_drew)); exact HO331.out) hb); have n5_ := Aside0.mk (Kd.R_below (by (with_reducible repeat (first | apply Kd.R_alloc | apply Kd.R_drewN | apply Kd.R_drew)); exact HL333_0.out) hb); have n6_ := Aside0.mk (Kd.R_below (by (with_reducible repeat (first | apply Kd.R_alloc | apply Kd.R_drewN | apply Kd.R_drew)); exact HL334_0.out) hb); have n7_ := Aside0.mk (Kd.R_below (by (with_reducible repeat (first | apply Kd.R_alloc | apply Kd.R_drewN | apply Kd.R_drew)); exact HO337.out) hb); have n8_ := Aside0.mk (Kd.S_below (by (with_reducible repeat (first | apply Kd.S_alloc | apply Kd.S_drewN | apply Kd.S_drew)); exact HO341.out) hb); have n9_ := Aside0.mk (Kd.C_below (by repeat (first | (with_reducible exact HR328_0.out) | (with_reducible refine Kd.C_alloc ?_ _) | (with_reducible refine Kd.C_drewN ?_ _) | (with_reducible refine Kd.C_drew ?_) | exact HR328_0.out)) hb); have n10_ := Aside0.mk (Kd.C_below (by repeat (first | (with_reducible exact HR333_0.out) | (with_reducible refine Kd.C_alloc ?_ _) | (with_reducible refine Kd.C_drewN ?_ _) | (with_reducible refine Kd.C_drew ?_) | exact HR333_0.out)) hb); have n11_ := Aside0.mk (Kd.C_below (by repeat (first | (with_reducible exact HR334_0.out) | (with_reducible refine Kd.C_alloc ?_ _) | (with_reducible refine Kd.C_drewN ?_ _) | (with_reducible refine Kd.C_drew ?_) | exact HR334_0.out)) hb); have n12_ := Aside0.mk (below_step (by repeat (first | (with_reducible first | exact HB.out | apply below_alloc | apply pw_below_drewN | apply below_drew1) | exact HB.out)) hb); clear HO321; clear HO324; clear HO327; clear HL328_0; clear HO331; clear HL333_0; clear HL334_0; clear HO337; clear HO341; clear HR328_0; clear HR333_0; clear HR334_0; clear HB; have HO321 := n0_; have HO324 := n1_; have HO327 := n2_; have HL328_0 := n3_; have HO331 := n4_; have HL333_0 := n5_; have HL334_0 := n6_; have HO337 := n7_; have HO341 := n8_; have HR328_0 := n9_; have HR333_0 := n10_; have HR334_0 := n11_; have HB := n12_; clear n0_ n1_ n2_ n3_ n4_ n5_ n6_ n7_ n8_ n9_ n10_ n11_ n12_; (try clear hb); (try clear hb2); (try clear hk); (try clear hi)) | (go_at_call 32; (with_reducible refine (word_Number.calls (⟨#[48, 49]⟩ : ByteArray) false _ A31.out ?side1).mono ?_); (case side1 => exact Glob.below HG.out (by repeat (first | (with_reducible first | exact HB.out | apply below_alloc | apply pw_below_drewN | apply below_drew1) | exact HB.out))); rintro e w58 ⟨rfl, hb⟩; have n0_ := Aside0.mk (Kd.R_below (by (with_reducible repeat (first | apply Kd.R_alloc | apply Kd.R_drewN | apply Kd.R_drew)); exact HO321.out) hb); have n1_ := Aside0.mk (Kd.R_below (by (with_reducible repeat (first | apply Kd.R_alloc | apply Kd.R_drewN | apply Kd.R_drew)); exact HO324.out) hb); have n2_ := Aside0.mk (Kd.S_below (by (with_reducible repeat (first | apply Kd.S_alloc | apply Kd.S_drewN | apply Kd.S_drew)); exact HO327.out) hb); have n3_ := Aside0.mk (Kd.R_below (by (with_reducible repeat (first | apply Kd.R_alloc | apply Kd.R_drewN | apply Kd.R_drew)); exact HL328_0.out) hb); have n4_ := Aside0.mk (Kd.R_below (by (with_reducible repeat (first | apply Kd.R_alloc | apply Kd.R_drewN | apply Kd.R_drew)); exact HO331.out) hb); have n5_ := Aside0.mk (Kd.R_below (by (with_reducible repeat (first | apply Kd.R_alloc | apply Kd.R_drewN | apply Kd.R_drew)); exact HL333_0.out) hb); have n6_ := Aside0.mk (Kd.R_below (by (with_reducible repeat (first | apply Kd.R_alloc | apply Kd.R_drewN | apply Kd.R_drew)); exact HL334_0.out) hb); have n7_ := Aside0.mk (Kd.R_below (by (with_reducible repeat (first | apply Kd.R_alloc | apply Kd.R_drewN | apply Kd.R_drew)); exact HO337.out) hb); have n8_ := Aside0.mk (Kd.S_below (by (with_reducible repeat (first | apply Kd.S_alloc | apply Kd.S_drewN | apply Kd.S_drew)); exact HO341.out) hb); have n9_ := Aside0.mk (Kd.C_below (by repeat (first | (with_reducible exact HR328_0.out) | (with_reducible refine Kd.C_alloc ?_ _) | (with_reducible refine Kd.C_drewN ?_ _) | (with_reducible refine Kd.C_drew ?_) | exact HR328_0.out)) hb); have n10_ := Aside0.mk (Kd.C_below (by repeat (first | (with_reducible exact HR333_0.out) | (with_reducible refine Kd.C_alloc ?_ _) | (with_reducible refine Kd.C_drewN ?_ _) | (with_reducible refine Kd.C_drew ?_) | exact HR333_0.out)) hb); have n11_ := Aside0.mk (Kd.C_below (by repeat (first | (with_reducible exact HR334_0.out) | (with_reducible refine Kd.C_alloc ?_ _) | (with_reducible refine Kd.C_drewN ?_ _) | (with_reducible refine Kd.C_drew ?_) | exact HR334_0.out)) hb); have n12_ := Aside0.mk (below_step (by repeat (first | (with_reducible first | exact HB.out | apply below_alloc | apply pw_below_drewN | apply below_drew1) | exact HB.out)) hb); clear HO321; clear HO324; clear HO327; clear HL328_0; clear HO331; clear HL333_0; clear HL334_0; clear HO337; clear HO341; clear HR328_0; clear HR333_0; clear HR334_0; clear HB; have HO321 := n0_; have HO324 := n1_; have HO327 := n2_; have HL328_0 := n3_; have HO331 := n4_; have HL333_0 := n5_; have HL334_0 := n6_; have HO337 := n7_; have HO341 := n8_; have HR328_0 := n9_; have HR333_0 := n10_; have HR334_0 := n11_; have HB := n12_; clear n0_ n1_ n2_ n3_ n4_ n5_ n6_ n7_ n8_ n9_ n10_ n11_ n12_; (try clear hb); (try clear hb2); (try clear hk); (try clear hi)) | (go_at_call 32; (with_reducible refine (word_Number.calls (⟨#[]⟩ : ByteArray) false _ A33.out ?side1).mono ?_); (case side1 => exact Glob.below HG.out (by repeat (first | (with_reducible first | exact HB.out | apply below_alloc | apply pw_below_drewN | apply below_drew1) | exact HB.out))); rintro e w59 ⟨rfl, hb⟩; have n0_ := Aside0.mk (Kd.R_below (by (with_reducible repeat (first | apply Kd.R_alloc | apply Kd.R_drewN | apply Kd.R_drew)); exact HO321.out) hb); have n1_ := Aside0.mk (Kd.R_below (by (with_reducible repeat (first | apply Kd.R_alloc | apply Kd.R_drewN | apply Kd.R_drew)); exact HO324.out) hb); have n2_ := Aside0.mk (Kd.S_below (by (with_reducible repeat (first | apply Kd.S_alloc | apply Kd.S_drewN | apply Kd.S_drew)); exact HO327.out) hb); have n3_ := Aside0.mk (Kd.R_below (by (with_reducible repeat (first | apply Kd.R_alloc | apply Kd.R_drewN | apply Kd.R_drew)); exact HL328_0.out) hb); have n4_ := Aside0.mk (Kd.R_below (by (with_reducible repeat (first | apply Kd.R_alloc | apply Kd.R_drewN | apply Kd.R_drew)); exact HO331.out) hb); have n5_ := Aside0.mk (Kd.R_below (by (with_reducible repeat (first | apply Kd.R_alloc | apply Kd.R_drewN | apply Kd.R_drew)); exact HL333_0.out) hb); have n6_ := Aside0.mk (Kd.R_below (by (with_reducible repeat (first | apply Kd.R_alloc | apply Kd.R_drewN | apply Kd.R_drew)); exact HL334_0.out) hb); have n7_ := Aside0.mk (Kd.R_below (by (with_reducible repeat (first | apply Kd.R_alloc | apply Kd.R_drewN | apply Kd.R_drew)); exact HO337.out) hb); have n8_ := Aside0.mk (Kd.S_below (by (with_reducible repeat (first | apply Kd.S_alloc | apply Kd.S_drewN | apply Kd.S_drew)); exact HO341.out) hb); have n9_ := Aside0.mk (Kd.C_below (by repeat (first | (with_reducible exact HR328_0.out) | (with_reducible refine Kd.C_alloc ?_ _) | (with_reducible refine Kd.C_drewN ?_ _) | (with_reducible refine Kd.C_drew ?_) | exact HR328_0.out)) hb); have n10_ := Aside0.mk (Kd.C_below (by repeat (first | (with_reducible exact HR333_0.out) | (with_reducible refine Kd.C_alloc ?_ _) | (with_reducible refine Kd.C_drewN ?_ _) | (with_reducible refine Kd.C_drew ?_) | exact HR333_0.out)) hb); have n11_ := Aside0.mk (Kd.C_below (by repeat (first | (with_reducible exact HR334_0.out) | (with_reducible refine Kd.C_alloc ?_ _) | (with_reducible refine Kd.C_drewN ?_ _) | (with_reducible refine Kd.C_drew ?_) | exact HR334_0.out)) hb); have n12_ := Aside0.mk (below_step (by repeat (first | (with_reducible first | exact HB.out | apply below_alloc | apply pw_below_drewN | apply below_drew1) | exact HB.out)) hb); clear HO321; clear HO324; clear HO327; clear HL328_0; clear HO331; clear HL333_0; clear HL334_0; clear HO337; clear HO341; clear HR328_0; clear HR333_0; clear HR334_0; clear HB; have HO321 := n0_; have HO324 := n1_; have HO327 := n2_; have HL328_0 := n3_; have HO331 := n4_; have HL333_0 := n5_; have HL334_0 := n6_; have HO337 := n7_; have HO341 := n8_; have HR328_0 := n9_; have HR333_0 := n10_; have HR334_0 := n11_; have HB := n12_; clear n0_ n1_ n2_ n3_ n4_ n5_ n6_ n7_ n8_ n9_ n10_ n11_ n12_; (try clear hb); (try clear hb2); (try clear hk); (try clear hi)) | (go_at_call 32; (with_reducible refine (word_Number.calls (⟨#[49, 50, 51, 52, 53, 54, 55, 56, 57, 48, 49, 50, 51, 52, 53, 54, 55, 56, 57, 48, 49]⟩ : ByteArray) false _ A35.out ?side1).mono ?_); (case side1 => exact Glob.below HG.out (by repeat (first | (with_reducible first | exact HB.out | apply below_alloc | apply pw_below_drewN | apply below_drew1) | exact HB.out))); rintro e w60 ⟨rfl, hb⟩; have n0_ := Aside0.mk (Kd.R_below (by (with_reducible repeat (first | apply Kd.R_alloc | apply Kd.R_drewN | apply Kd.R_drew)); exact HO321.out) hb); have n1_ := Aside0.mk (Kd.R_below (by (with_reducible repeat (first | apply Kd.R_alloc | apply Kd.R_drewN | apply Kd.R_drew)); exact HO324.out) hb); have n2_ := Aside0.mk (Kd.S_below (by (with_reducible repeat (first | apply Kd.S_alloc | apply Kd.S_drewN | apply Kd.S_drew)); exact HO327.out) hb); have n3_ := Aside0.mk (Kd.R_below (by (with_reducible repeat (first | apply Kd.R_alloc | apply Kd.R_drewN | apply Kd.R_drew)); exact HL328_0.out) hb); have n4_ := Aside0.mk (Kd.R_below (by (with_reducible repeat (first | apply Kd.R_alloc | apply Kd.R_drewN | apply Kd.R_drew)); exact HO331.out) hb); have n5_ := Aside0.mk (Kd.R_below (by (with_reducible repeat (first | apply Kd.R_alloc | apply Kd.R_drewN | apply Kd.R_drew)); exact HL333_0.out) hb); have n6_ := Aside0.mk (Kd.R_below (by (with_reducible repeat (first | apply Kd.R_alloc | apply Kd.R_drewN | apply Kd.R_drew)); exact HL334_0.out) hb); have n7_ := Aside0.mk (Kd.R_below (by (with_reducible repeat (first | apply Kd.R_alloc | apply Kd.R_drewN | apply Kd.R_drew)); exact HO337.out) hb); have n8_ := Aside0.mk (Kd.S_below (by (with_reducible repeat (first | apply Kd.S_alloc | apply Kd.S_drewN | apply Kd.S_drew)); exact HO341.out) hb); have n9_ := Aside0.mk (Kd.C_below (by repeat (first | (with_reducible exact HR328_0.out) | (with_reducible refine Kd.C_alloc ?_ _) | (with_reducible refine Kd.C_drewN ?_ _) | (with_reducible refine Kd.C_drew ?_) | exact HR328_0.out)) hb); have n10_ := Aside0.mk (Kd.C_below (by repeat (first | (with_reducible exact HR333_0.out) | (with_reducible refine Kd.C_alloc ?_ _) | (with_reducible refine Kd.C_drewN ?_ _) | (with_reducible refine Kd.C_drew ?_) | exact HR333_0.out)) hb); have n11_ := Aside0.mk (Kd.C_below (by repeat (first | (with_reducible exact HR334_0.out) | (with_reducible refine Kd.C_alloc ?_ _) | (with_reducible refine Kd.C_drewN ?_ _) | (with_reducible refine Kd.C_drew ?_) | exact HR334_0.out)) hb); have n12_ := Aside0.mk (below_step (by repeat (first | (with_reducible first | exact HB.out | apply below_alloc | apply pw_below_drewN | apply below_drew1) | exact HB.out)) hb); clear HO321; clear HO324; clear HO327; clear HL328_0; clear HO331; clear HL333_0; clear HL334_0; clear HO337; clear HO341; clear HR328_0; clear HR333_0; clear HR334_0; clear HB; have HO321 := n0_; have HO324 := n1_; have HO327 := n2_; have HL328_0 := n3_; have HO331 := n4_; have HL333_0 := n5_; have HL334_0 := n6_; have HO337 := n7_; have HO341 := n8_; have HR328_0 := n9_; have HR333_0 := n10_; have HR334_0 := n11_; have HB := n12_; clear n0_ n1_ n2_ n3_ n4_ n5_ n6_ n7_ n8_ n9_ n10_ n11_ n12_; (try clear hb); (try clear hb2); (try clear hk); (try clear hi)) | (go_at_call 32; (with_reducible refine (word_Number.calls (⟨#[49, 50, 51, 52, 53, 54, 55, 56, 57, 48, 49, 50, 51, 52, 53, 54, 55, 56, 57, 48]⟩ : ByteArray) true _ A37.out ?side1).mono ?_); (case side1 => exact Glob.below HG.out (by repeat (first | (with_reducible first | exact HB.out | apply below_alloc | apply pw_below_drewN | apply below_drew1) | exact HB.out))); rintro e w61 ⟨rfl, hb⟩; have n0_ := Aside0.mk (Kd.R_below (by (with_reducible repeat (first | apply Kd.R_alloc | apply Kd.R_drewN | apply Kd.R_drew)); exact HO321.out) hb); have n1_ := Aside0.mk (Kd.R_below (by (with_reducible repeat (first | apply Kd.R_alloc | apply Kd.R_drewN | apply Kd.R_drew)); exact HO324.out) hb); have n2_ := Aside0.mk (Kd.S_below (by (with_reducible repeat (first | apply Kd.S_alloc | apply Kd.S_drewN | apply Kd.S_drew)); exact HO327.out) hb); have n3_ := Aside0.mk (Kd.R_below (by (with_reducible repeat (first | apply Kd.R_alloc | apply Kd.R_drewN | apply Kd.R_drew)); exact HL328_0.out) hb); have n4_ := Aside0.mk (Kd.R_below (by (with_reducible repeat (first | apply Kd.R_alloc | apply Kd.R_drewN | apply Kd.R_drew)); exact HO331.out) hb); have n5_ := Aside0.mk (Kd.R_below (by (with_reducible repeat (first | apply Kd.R_alloc | apply Kd.R_drewN | apply Kd.R_drew)); exact HL333_0.out) hb); have n6_ := Aside0.mk (Kd.R_below (by (with_reducible repeat (first | apply Kd.R_alloc | apply Kd.R_drewN | apply Kd.R_drew)); exact HL334_0.out) hb); have n7_ := Aside0.mk (Kd.R_below (by (with_reducible repeat (first | apply Kd.R_alloc | apply Kd.R_drewN | apply Kd.R_drew)); exact HO337.out) hb); have n8_ := Aside0.mk (Kd.S_below (by (with_reducible repeat (first | apply Kd.S_alloc | apply Kd.S_drewN | apply Kd.S_drew)); exact HO341.out) hb); have n9_ := Aside0.mk (Kd.C_below (by repeat (first | (with_reducible exact HR328_0.out) | (with_reducible refine Kd.C_alloc ?_ _) | (with_reducible refine Kd.C_drewN ?_ _) | (with_reducible refine Kd.C_drew ?_) | exact HR328_0.out)) hb); have n10_ := Aside0.mk (Kd.C_below (by repeat (first | (with_reducible exact HR333_0.out) | (with_reducible refine Kd.C_alloc ?_ _) | (with_reducible refine Kd.C_drewN ?_ _) | (with_reducible refine Kd.C_drew ?_) | exact HR333_0.out)) hb); have n11_ := Aside0.mk (Kd.C_below (by repeat (first | (with_reducible exact HR334_0.out) | (with_reducible refine Kd.C_alloc ?_ _) | (with_reducible refine Kd.C_drewN ?_ _) | (with_reducible refine Kd.C_drew ?_) | exact HR334_0.out)) hb); have n12_ := Aside0.mk (below_step (by repeat (first | (with_reducible first | exact HB.out | apply below_alloc | apply pw_below_drewN | apply below_drew1) | exact HB.out)) hb); clear HO321; clear HO324; clear HO327; clear HL328_0; clear HO331; clear HL333_0; clear HL334_0; clear HO337; clear HO341; clear HR328_0; clear HR333_0; clear HR334_0; clear HB; have HO321 := n0_; have HO324 := n1_; have HO327 := n2_; have HL328_0 := n3_; have HO331 := n4_; have HL333_0 := n5_; have HL334_0 := n6_; have HO337 := n7_; have HO341 := n8_; have HR328_0 := n9_; have HR333_0 := n10_; have HR334_0 := n11_; have HB := n12_; clear n0_ n1_ n2_ n3_ n4_ n5_ n6_ n7_ n8_ n9_ n10_ n11_ n12_; (try clear hb); (try clear hb2); (try clear hk); (try clear hi)) | (go_at_call 33; (with_reducible refine (word_Good.calls (⟨#[97, 98, 99, 100, 101, 102, 103, 104, 105, 106, 107, 108, 109, 110, 111, 112, 113, 114, 115, 116, 117]⟩ : ByteArray) false _ A39.out ?side1).mono ?_); (case side1 => exact Glob.below HG.out (by repeat (first | (with_reducible first | exact HB.out | apply below_alloc | apply pw_below_drewN | apply below_drew1) | exact HB.out))); rintro e w62 ⟨rfl, hb⟩; have n0_ := Aside0.mk (Kd.R_below (by (with_reducible repeat (first | apply Kd.R_alloc | apply Kd.R_drewN | apply Kd.R_drew)); exact HO321.out) hb); have n1_ := Aside0.mk (Kd.R_below (by (with_reducible repeat (first | apply Kd.R_alloc | apply Kd.R_drewN | apply Kd.R_drew)); exact HO324.out) hb); have n2_ := Aside0.mk (Kd.S_below (by (with_reducible repeat (first | apply Kd.S_alloc | apply Kd.S_drewN | apply Kd.S_drew)); exact HO327.out) hb); have n3_ := Aside0.mk (Kd.R_below (by (with_reducible repeat (first | apply Kd.R_alloc | apply Kd.R_drewN | apply Kd.R_drew)); exact HL328_0.out) hb); have n4_ := Aside0.mk (Kd.R_below (by (with_reducible repeat (first | apply Kd.R_alloc | apply Kd.R_drewN | apply Kd.R_drew)); exact HO331.out) hb); have n5_ := Aside0.mk (Kd.R_below (by (with_reducible repeat (first | apply Kd.R_alloc | apply Kd.R_drewN | apply Kd.R_drew)); exact HL333_0.out) hb); have n6_ := Aside0.mk (Kd.R_below (by (with_reducible repeat (first | apply Kd.R_alloc | apply Kd.R_drewN | apply Kd.R_drew)); exact HL334_0.out) hb); have n7_ := Aside0.mk (Kd.R_below (by (with_reducible repeat (first | apply Kd.R_alloc | apply Kd.R_drewN | apply Kd.R_drew)); exact HO337.out) hb); have n8_ := Aside0.mk (Kd.S_below (by (with_reducible repeat (first | apply Kd.S_alloc | apply Kd.S_drewN | apply Kd.S_drew)); exact HO341.out) hb); have n9_ := Aside0.mk (Kd.C_below (by repeat (first | (with_reducible exact HR328_0.out) | (with_reducible refine Kd.C_alloc ?_ _) | (with_reducible refine Kd.C_drewN ?_ _) | (with_reducible refine Kd.C_drew ?_) | exact HR328_0.out)) hb); have n10_ := Aside0.mk (Kd.C_below (by repeat (first | (with_reducible exact HR333_0.out) | (with_reducible refine Kd.C_alloc ?_ _) | (with_reducible refine Kd.C_drewN ?_ _) | (with_reducible refine Kd.C_drew ?_) | exact HR333_0.out)) hb); have n11_ := Aside0.mk (Kd.C_below (by repeat (first | (with_reducible exact HR334_0.out) | (with_reducible refine Kd.C_alloc ?_ _) | (with_reducible refine Kd.C_drewN ?_ _) | (with_reducible refine Kd.C_drew ?_) | exact HR334_0.out)) hb); have n12_ := Aside0.mk (below_step (by repeat (first | (with_reducible first | exact HB.out | apply below_alloc | apply pw_below_drewN | apply below_drew1) | exact HB.out)) hb); clear HO321; clear HO324; clear HO327; clear HL328_0; clear HO331; clear HL333_0; clear HL334_0; clear HO337; clear HO341; clear HR328_0; clear HR333_0; clear HR334_0; clear HB; have HO321 := n0_; have HO324 := n1_; have HO327 := n2_; have HL328_0 := n3_; have HO331 := n4_; have HL333_0 := n5_; have HL334_0 := n6_; have HO337 := n7_; have HO341 := n8_; have HR328_0 := n9_; have HR333_0 := n10_; have HR334_0 := n11_; have HB := n12_; clear n0_ n1_ n2_ n3_ n4_ n5_ n6_ n7_ n8_ n9_ n10_ n11_ n12_; (try clear hb); (try clear hb2); (try clear hk); (try clear hi)) | (go_at_call 34; (refine (word_Join.calls _ _ ([] : List ByteArray) t348 _ ?side1 ?side2 A41.out ?side3).mono ?_); (case side1 => exact Kd.C_nil _ _); (case side2 => exact Nat.le_refl _); (case side3 => exact Glob.below HG.out (by repeat (first | (with_reducible first | exact HB.out | apply below_alloc | apply pw_below_drewN | apply below_drew1) | exact HB.out))); rintro e w63 ⟨rfl, hb⟩; have n0_ := Aside0.mk (Kd.R_below (by (with_reducible repeat (first | apply Kd.R_alloc | apply Kd.R_drewN | apply Kd.R_drew)); exact HO321.out) hb); have n1_ := Aside0.mk (Kd.R_below (by (with_reducible repeat (first | apply Kd.R_alloc | apply Kd.R_drewN | apply Kd.R_drew)); exact HO324.out) hb); have n2_ := Aside0.mk (Kd.S_below (by (with_reducible repeat (first | apply Kd.S_alloc | apply Kd.S_drewN | apply Kd.S_drew)); exact HO327.out) hb); have n3_ := Aside0.mk (Kd.R_below (by (with_reducible repeat (first | apply Kd.R_alloc | apply Kd.R_drewN | apply Kd.R_drew)); exact HL328_0.out) hb); have n4_ := Aside0.mk (Kd.R_below (by (with_reducible repeat (first | apply Kd.R_alloc | apply Kd.R_drewN | apply Kd.R_drew)); exact HO331.out) hb); have n5_ := Aside0.mk (Kd.R_below (by (with_reducible repeat (first | apply Kd.R_alloc | apply Kd.R_drewN | apply Kd.R_drew)); exact HL333_0.out) hb); have n6_ := Aside0.mk (Kd.R_below (by (with_reducible repeat (first | apply Kd.R_alloc | apply Kd.R_drewN | apply Kd.R_drew)); exact HL334_0.out) hb); have n7_ := Aside0.mk (Kd.R_below (by (with_reducible repeat (first | apply Kd.R_alloc | apply Kd.R_drewN | apply Kd.R_drew)); exact HO337.out) hb); have n8_ := Aside0.mk (Kd.S_below (by (with_reducible repeat (first | apply Kd.S_alloc | apply Kd.S_drewN | apply Kd.S_drew)); exact HO341.out) hb); have n9_ := Aside0.mk (Kd.C_below (by repeat (first | (with_reducible exact HR328_0.out) | (with_reducible refine Kd.C_alloc ?_ _) | (with_reducible refine Kd.C_drewN ?_ _) | (with_reducible refine Kd.C_drew ?_) | exact HR328_0.out)) hb); have n10_ := Aside0.mk (Kd.C_below (by repeat (first | (with_reducible exact HR333_0.out) | (with_reducible refine Kd.C_alloc ?_ _) | (with_reducible refine Kd.C_drewN ?_ _) | (with_reducible refine Kd.C_drew ?_) | exact HR333_0.out)) hb); have n11_ := Aside0.mk (Kd.C_below (by repeat (first | (with_reducible exact HR334_0.out) | (with_reducible refine Kd.C_alloc ?_ _) | (with_reducible refine Kd.C_drewN ?_ _) | (with_reducible refine Kd.C_drew ?_) | exact HR334_0.out)) hb); have n12_ := Aside0.mk (below_step (by repeat (first | (with_reducible first | exact HB.out | apply below_alloc | apply pw_below_drewN | apply below_drew1) | exact HB.out)) hb); clear HO321; clear HO324; clear HO327; clear HL328_0; clear HO331; clear HL333_0; clear HL334_0; clear HO337; clear HO341; clear HR328_0; clear HR333_0; clear HR334_0; clear HB; have HO321 := n0_; have HO324 := n1_; have HO327 := n2_; have HL328_0 := n3_; have HO331 := n4_; have HL333_0 := n5_; have HL334_0 := n6_; have HO337 := n7_; have HO341 := n8_; have HR328_0 := n9_; have HR333_0 := n10_; have HR334_0 := n11_; have HB := n12_; clear n0_ n1_ n2_ n3_ n4_ n5_ n6_ n7_ n8_ n9_ n10_ n11_ n12_; (try clear hb); (try clear hb2); (try clear hk); (try clear hi)))
                                                go_ret
                                                exact ⟨by first | rfl | (simp [errW_none, errW_some] <;> rfl) | (simp [*, errW_none, errW_some] <;> rfl), by repeat (first | (with_reducible first | exact HB.out | apply below_alloc | apply pw_below_drewN | apply below_drew1) | exact HB.out)⟩
                                              · rw [if_neg c42] at H
                                                have c42b0 : (t348.toList == ([] : List UInt8)) = false := beq_eq_false_iff_ne.mpr c42
                                                have c42b1 : (t348.toList != ([] : List UInt8)) = true := bne_iff_ne.mpr c42
                                                exact absurd H (by simp)
                                          · replace c38 := Bool.eq_false_iff.mpr c38
                                            subst c38
                                            have H1 : (some false) = some true := by (rw [if_neg (show ¬ (false = true) by decide)] at H); first | done | exact H
                                            clear H
                                            have H := H1
                                            clear H1
                                            exact absurd H (by simp)
                                · rw [if_neg c28] at H
                                  have c28b0 : ((t339.length : Int) == 1) = false := beq_eq_false_iff_ne.mpr c28
                                  have c28b1 : ((t339.length : Int) != 1) = true := bne_iff_ne.mpr c28
                                  exact absurd H (by simp)
                              · replace c26 := Bool.eq_false_iff.mpr c26
                                subst c26
                                have H1 : (some false) = some true := by (rw [if_neg (show ¬ (false = true) by decide)] at H); first | done | exact H
                                clear H
                                have H := H1
                                clear H1
                                exact absurd H (by simp)
                            · rw [if_neg c24] at H
                              exact absurd H (by simp)
                          · rw [if_neg c23] at H
                            have c23b0 : (((rd_L2 t325 1).length : Int) == 0) = false := beq_eq_false_iff_ne.mpr c23
                            have c23b1 : (((rd_L2 t325 1).length : Int) != 0) = true := bne_iff_ne.mpr c23
                            have c23b2 : ¬ ((rd_L2 t325 1) = []) := fun h_ => c23 (by rw [h_]; rfl)
                            exact absurd H (by simp)
                        · rw [if_neg c22] at H
                          exact absurd H (by simp)
                      · replace c21 := Bool.eq_false_iff.mpr c21
                        subst c21
                        have H1 : (some false) = some true := by (rw [if_neg (show ¬ (false = true) by decide)] at H); first | done | exact H
                        clear H
                        have H := H1
                        clear H1
                        exact absurd H (by simp)
                    · rw [if_neg c19] at H
                      exact absurd H (by simp)
                  · rw [if_neg c18] at H
                    have c18b0 : ((t325.length : Int) == 3) = false := beq_eq_false_iff_ne.mpr c18
                    have c18b1 : ((t325.length : Int) != 3) = true := bne_iff_ne.mpr c18
                    exact absurd H (by simp)
                · rw [if_neg c17] at H
                  have c17b0 : (t319 == 11) = false := beq_eq_false_iff_ne.mpr c17
                  have c17b1 : (t319 != 11) = true := bne_iff_ne.mpr c17
                  exact absurd H (by simp)
  · replace c2 := Bool.eq_false_iff.mpr c2
    subst c2
    have H1 : (some false) = some true := by (rw [if_neg (show ¬ (false = true) by decide)] at H); first | done | exact H
    clear H
    have H := H1
    clear H1
    exact absurd H (by simp)

/-! ### cubitref6_GoodWord: function 37 -/
mutual
def cubitref6_GoodWord.l0 : Nat → ByteArray → Int → Option (Bool)
  | 0, _, _ => none
  | k + 1, x0, x3 => if x3 < (x0.size : Int) then (if 0 ≤ x3 then (if (bt x0 x3) < 97 then (if (bt x0 x3) < 48 then (cubitref6_GoodWord.j1 k x0 x3 true) else (cubitref6_GoodWord.j1 k x0 x3 (decide ((bt x0 x3) > 57)))) else (if (bt x0 x3) > 122 then (if (bt x0 x3) < 48 then (cubitref6_GoodWord.j1 k x0 x3 true) else (cubitref6_GoodWord.j1 k x0 x3 (decide ((bt x0 x3) > 57)))) else (cubitref6_GoodWord.j1 k x0 x3 false))) else (none)) else (if (x0.size : Int) ≥ 1 then (some (decide ((x0.size : Int) ≤ 20))) else (some false))
def cubitref6_GoodWord.j1 : Nat → ByteArray → Int → Bool → Option (Bool)
  | 0, _, _, _ => none
  | k + 1, x0, x3, x31 => if x31 = true then (some false) else (cubitref6_GoodWord.l0 k x0 (wrap64 (x3 + 1)))
end
def cubitref6_GoodWord.f (k : Nat) (a0 : ByteArray) : Option (Bool) := cubitref6_GoodWord.l0 k a0 0
theorem cubitref6_GoodWord.mono_l : ∀ k, (∀ y0 y1, LeO (cubitref6_GoodWord.l0 k y0 y1) (cubitref6_GoodWord.l0 (k + 1) y0 y1)) ∧ (∀ y0 y1 y2, LeO (cubitref6_GoodWord.j1 k y0 y1 y2) (cubitref6_GoodWord.j1 (k + 1) y0 y1 y2))
  | 0 => ⟨fun _ _ r h => by simp [cubitref6_GoodWord.l0] at h, fun _ _ _ r h => by simp [cubitref6_GoodWord.j1] at h⟩
  | k + 1 => by
    obtain ⟨ih0, ih1⟩ := cubitref6_GoodWord.mono_l k
    refine ⟨?_, ?_⟩
    · intro y0 y1
      unfold cubitref6_GoodWord.l0
      repeat' first
      | (with_reducible exact ih0 _ _)
      | (with_reducible exact ih1 _ _ _)
      | (with_reducible exact LeO.refl _)
      | (with_reducible exact LeO.none _)
      | (with_reducible refine LeO.ite ?_ ?_)
      | (with_reducible refine LeO.bind ?_ (fun _ => ?_))
      | exact ih0 _ _
      | exact ih1 _ _ _
      | exact LeO.none _
      | refine LeO.ite ?_ ?_
      | refine LeO.bind ?_ (fun _ => ?_)
    · intro y0 y1 y2
      unfold cubitref6_GoodWord.j1
      repeat' first
      | (with_reducible exact ih0 _ _)
      | (with_reducible exact ih1 _ _ _)
      | (with_reducible exact LeO.refl _)
      | (with_reducible exact LeO.none _)
      | (with_reducible refine LeO.ite ?_ ?_)
      | (with_reducible refine LeO.bind ?_ (fun _ => ?_))
      | exact ih0 _ _
      | exact ih1 _ _ _
      | exact LeO.none _
      | refine LeO.ite ?_ ?_
      | refine LeO.bind ?_ (fun _ => ?_)
theorem cubitref6_GoodWord.mono : ∀ a0 k, LeO (cubitref6_GoodWord.f k a0) (cubitref6_GoodWord.f (k + 1) a0) := by
  intro a0 k
  obtain ⟨ih0, ih1⟩ := cubitref6_GoodWord.mono_l k
  unfold cubitref6_GoodWord.f
  repeat' first
      | (with_reducible exact ih0 _ _)
      | (with_reducible exact ih1 _ _ _)
      | (with_reducible exact LeO.refl _)
      | (with_reducible exact LeO.none _)
      | (with_reducible refine LeO.ite ?_ ?_)
      | (with_reducible refine LeO.bind ?_ (fun _ => ?_))
      | exact ih0 _ _
      | exact ih1 _ _ _
      | exact LeO.none _
      | refine LeO.ite ?_ ?_
      | refine LeO.bind ?_ (fun _ => ?_)
set_option maxHeartbeats 8000000 in
set_option maxRecDepth 100000 in
theorem cubitref6_GoodWord.calls (k : Nat) (a0 : ByteArray) (r : Bool) (w : World) (h : cubitref6_GoodWord.f k a0 = some r) (hG : Glob w) :
    Calls Tryd.prog 37 #[.string a0] w fun e w' => e = .returned (.bool r) ∧ Drawn0 w w' := by
  have H : (cubitref6_GoodWord.l0 k a0 0) = some r := h
  clear h
  have HG := Aside0.mk hG
  clear hG
  have H' := Aside0.mk H
  clear H
  go_enter Tryd.func37, Tryd.ntmps37
  go_wp2
  go_loopg [3] k (fun kq v3 w' => ∃ (x3_1 : Int), v3 = .int .i64 x3_1 ∧ Aside0 (cubitref6_GoodWord.l0 kq a0 x3_1 = some r) ∧ Aside0 (kq ≤ k) ∧ Drawn0 w w')
  case atStart => exact ⟨(0), (by first | rfl | (simp; done) | (simp only [i64_w, i32_w]; done) | (simp [*]; done)), H', ⟨Nat.le_refl _⟩, by repeat (first | exact Drawn0.refl _ | apply Drawn0.step)⟩
  case round =>
    clear H'
    obtain ⟨x3_1, rfl, HA, HK1, ⟨m1, rfl⟩⟩ := hrel
    cases gk with
    | zero => exact absurd HA.out (by simp [cubitref6_GoodWord.l0])
    | succ k1 =>
      have H := HA.out
      clear HA
      simp only [cubitref6_GoodWord.l0] at H
      by_cases c2 : x3_1 < (a0.size : Int)
      · rw [if_pos c2] at H
        have c2b0 : decide (x3_1 < (a0.size : Int)) = true := decide_eq_true c2
        clear c2
        have HC3 := Aside0.mk H
        clear H
        go_upto_region 4 with (fail)
        go_cut [31] (fun v31 wc => ∃ (kq : Nat) (x31_2 : Bool), v31 = .bool x31_2 ∧ Aside0 (cubitref6_GoodWord.j1 kq a0 x3_1 x31_2 = some r) ∧ Aside0 (kq ≤ k1) ∧ Drawn0 w wc)
        case first =>
          have H := HC3.out
          clear HC3
          by_cases c4 : 0 ≤ x3_1
          · rw [if_pos c4] at H
            have c4b0 : decide (0 ≤ x3_1) = true := decide_eq_true c4
            clear c4
            (first | rw [c4b0] | (simp only [i64_w, i32_w]; rw [c4b0]) | skip)
            by_cases c6 : (bt a0 x3_1) < 97
            · rw [if_pos c6] at H
              have c6b0 : decide ((bt a0 x3_1) < 97) = true := decide_eq_true c6
              clear c6
              by_cases c8 : (bt a0 x3_1) < 48
              · rw [if_pos c8] at H
                have c8b0 : decide ((bt a0 x3_1) < 48) = true := decide_eq_true c8
                clear c8
                have H' := Aside0.mk H
                clear H
                have p5 : 0 ≤ (x3_1 : Int) := of_decide_eq_true (by first | (with_reducible assumption) | assumption)
                have q5 : x3_1 < (a0.size : Int) := of_decide_eq_true (by first | (with_reducible assumption) | assumption)
                have hx5 := bt_at a0 x3_1
                replace p5 := eq_true p5
                replace q5 := eq_true q5
                have p7 : 0 ≤ (x3_1 : Int) := of_decide_eq_true (by first | (with_reducible assumption) | assumption)
                have q7 : x3_1 < (a0.size : Int) := of_decide_eq_true (by first | (with_reducible assumption) | assumption)
                have hx7 := bt_at a0 x3_1
                replace p7 := eq_true p7
                replace q7 := eq_true q7
                go_wp2
                go_meet
                case rel => exact ⟨_, (true), (by first | rfl | (simp; done) | (simp only [i64_w, i32_w]; done) | (simp [*]; done)), H', ⟨by have := HK1.out; first | omega | exact Nat.le_refl _⟩, by repeat (first | exact Drawn0.refl _ | apply Drawn0.step)⟩
              · rw [if_neg c8] at H
                have c8b0 : decide ((bt a0 x3_1) < 48) = false := decide_eq_false c8
                clear c8
                have H' := Aside0.mk H
                clear H
                have p5 : 0 ≤ (x3_1 : Int) := of_decide_eq_true (by first | (with_reducible assumption) | assumption)
                have q5 : x3_1 < (a0.size : Int) := of_decide_eq_true (by first | (with_reducible assumption) | assumption)
                have hx5 := bt_at a0 x3_1
                replace p5 := eq_true p5
                replace q5 := eq_true q5
                have p7 : 0 ≤ (x3_1 : Int) := of_decide_eq_true (by first | (with_reducible assumption) | assumption)
                have q7 : x3_1 < (a0.size : Int) := of_decide_eq_true (by first | (with_reducible assumption) | assumption)
                have hx7 := bt_at a0 x3_1
                replace p7 := eq_true p7
                replace q7 := eq_true q7
                have p9 : 0 ≤ (x3_1 : Int) := of_decide_eq_true (by first | (with_reducible assumption) | assumption)
                have q9 : x3_1 < (a0.size : Int) := of_decide_eq_true (by first | (with_reducible assumption) | assumption)
                have hx9 := bt_at a0 x3_1
                replace p9 := eq_true p9
                replace q9 := eq_true q9
                go_wp2
                go_meet
                case rel => exact ⟨_, (decide ((bt a0 x3_1) > 57)), (by first | rfl | (simp; done) | (simp only [i64_w, i32_w]; done) | (simp [*]; done)), H', ⟨by have := HK1.out; first | omega | exact Nat.le_refl _⟩, by repeat (first | exact Drawn0.refl _ | apply Drawn0.step)⟩
            · rw [if_neg c6] at H
              have c6b0 : decide ((bt a0 x3_1) < 97) = false := decide_eq_false c6
              clear c6
              by_cases c11 : (bt a0 x3_1) > 122
              · rw [if_pos c11] at H
                have c11b0 : decide (122 < (bt a0 x3_1)) = true := decide_eq_true c11
                clear c11
                by_cases c13 : (bt a0 x3_1) < 48
                · rw [if_pos c13] at H
                  have c13b0 : decide ((bt a0 x3_1) < 48) = true := decide_eq_true c13
                  clear c13
                  have H' := Aside0.mk H
                  clear H
                  have p5 : 0 ≤ (x3_1 : Int) := of_decide_eq_true (by first | (with_reducible assumption) | assumption)
                  have q5 : x3_1 < (a0.size : Int) := of_decide_eq_true (by first | (with_reducible assumption) | assumption)
                  have hx5 := bt_at a0 x3_1
                  replace p5 := eq_true p5
                  replace q5 := eq_true q5
                  have p10 : 0 ≤ (x3_1 : Int) := of_decide_eq_true (by first | (with_reducible assumption) | assumption)
                  have q10 : x3_1 < (a0.size : Int) := of_decide_eq_true (by first | (with_reducible assumption) | assumption)
                  have hx10 := bt_at a0 x3_1
                  replace p10 := eq_true p10
                  replace q10 := eq_true q10
                  have p12 : 0 ≤ (x3_1 : Int) := of_decide_eq_true (by first | (with_reducible assumption) | assumption)
                  have q12 : x3_1 < (a0.size : Int) := of_decide_eq_true (by first | (with_reducible assumption) | assumption)
                  have hx12 := bt_at a0 x3_1
                  replace p12 := eq_true p12
                  replace q12 := eq_true q12
                  go_wp2
                  go_meet
                  case rel => exact ⟨_, (true), (by first | rfl | (simp; done) | (simp only [i64_w, i32_w]; done) | (simp [*]; done)), H', ⟨by have := HK1.out; first | omega | exact Nat.le_refl _⟩, by repeat (first | exact Drawn0.refl _ | apply Drawn0.step)⟩
                · rw [if_neg c13] at H
                  have c13b0 : decide ((bt a0 x3_1) < 48) = false := decide_eq_false c13
                  clear c13
                  have H' := Aside0.mk H
                  clear H
                  have p5 : 0 ≤ (x3_1 : Int) := of_decide_eq_true (by first | (with_reducible assumption) | assumption)
                  have q5 : x3_1 < (a0.size : Int) := of_decide_eq_true (by first | (with_reducible assumption) | assumption)
                  have hx5 := bt_at a0 x3_1
                  replace p5 := eq_true p5
                  replace q5 := eq_true q5
                  have p10 : 0 ≤ (x3_1 : Int) := of_decide_eq_true (by first | (with_reducible assumption) | assumption)
                  have q10 : x3_1 < (a0.size : Int) := of_decide_eq_true (by first | (with_reducible assumption) | assumption)
                  have hx10 := bt_at a0 x3_1
                  replace p10 := eq_true p10
                  replace q10 := eq_true q10
                  have p12 : 0 ≤ (x3_1 : Int) := of_decide_eq_true (by first | (with_reducible assumption) | assumption)
                  have q12 : x3_1 < (a0.size : Int) := of_decide_eq_true (by first | (with_reducible assumption) | assumption)
                  have hx12 := bt_at a0 x3_1
                  replace p12 := eq_true p12
                  replace q12 := eq_true q12
                  have p14 : 0 ≤ (x3_1 : Int) := of_decide_eq_true (by first | (with_reducible assumption) | assumption)
                  have q14 : x3_1 < (a0.size : Int) := of_decide_eq_true (by first | (with_reducible assumption) | assumption)
                  have hx14 := bt_at a0 x3_1
                  replace p14 := eq_true p14
                  replace q14 := eq_true q14
                  go_wp2
                  go_meet
                  case rel => exact ⟨_, (decide ((bt a0 x3_1) > 57)), (by first | rfl | (simp; done) | (simp only [i64_w, i32_w]; done) | (simp [*]; done)), H', ⟨by have := HK1.out; first | omega | exact Nat.le_refl _⟩, by repeat (first | exact Drawn0.refl _ | apply Drawn0.step)⟩
              · rw [if_neg c11] at H
                have c11b0 : decide (122 < (bt a0 x3_1)) = false := decide_eq_false c11
                clear c11
                have H' := Aside0.mk H
                clear H
                have p5 : 0 ≤ (x3_1 : Int) := of_decide_eq_true (by first | (with_reducible assumption) | assumption)
                have q5 : x3_1 < (a0.size : Int) := of_decide_eq_true (by first | (with_reducible assumption) | assumption)
                have hx5 := bt_at a0 x3_1
                replace p5 := eq_true p5
                replace q5 := eq_true q5
                have p10 : 0 ≤ (x3_1 : Int) := of_decide_eq_true (by first | (with_reducible assumption) | assumption)
                have q10 : x3_1 < (a0.size : Int) := of_decide_eq_true (by first | (with_reducible assumption) | assumption)
                have hx10 := bt_at a0 x3_1
                replace p10 := eq_true p10
                replace q10 := eq_true q10
                go_wp2
                go_meet
                case rel => exact ⟨_, (false), (by first | rfl | (simp; done) | (simp only [i64_w, i32_w]; done) | (simp [*]; done)), H', ⟨by have := HK1.out; first | omega | exact Nat.le_refl _⟩, by repeat (first | exact Drawn0.refl _ | apply Drawn0.step)⟩
          · rw [if_neg c4] at H
            exact absurd H (by simp)
        case rest =>
          clear HC3
          try clear c1
          try clear p1
          try clear q1
          try clear hx1
          try clear c2
          try clear c2b0
          try clear p2
          try clear c3
          try clear c4
          try clear c4b0
          try clear p5
          try clear q5
          try clear hx5
          try clear c6
          try clear c6b0
          try clear p7
          try clear q7
          try clear hx7
          try clear c8
          try clear c8b0
          try clear p9
          try clear q9
          try clear hx9
          try clear p10
          try clear q10
          try clear hx10
          try clear c11
          try clear c11b0
          try clear p12
          try clear q12
          try clear hx12
          try clear c13
          try clear c13b0
          try clear p14
          try clear q14
          try clear hx14
          try clear p10
          try clear p12
          try clear p14
          try clear p5
          try clear p7
          try clear p9
          try clear q10
          try clear q12
          try clear q14
          try clear q5
          try clear q7
          try clear q9
          obtain ⟨kq, x31_2, rfl, HA, HJ2, ⟨mc2, rfl⟩⟩ := hcut
          cases kq with
          | zero => exact absurd HA.out (by simp [cubitref6_GoodWord.j1])
          | succ kj2 =>
            have H := HA.out
            clear HA
            simp only [cubitref6_GoodWord.j1] at H
            by_cases c15 : x31_2 = true
            · subst c15
              have H1 : (some false) = some r := by (rw [if_pos rfl] at H); first | done | exact H
              clear H
              have H := H1
              clear H1
              obtain rfl := Option.some.inj H
              go_wp2
              go_ret
              exact ⟨by first | rfl | (simp; done) | (simp only [i64_w, i32_w]; done) | (simp [*]; done), by repeat (first | exact Drawn0.refl _ | apply Drawn0.step)⟩
            · replace c15 := Bool.eq_false_iff.mpr c15
              subst c15
              have H1 : (cubitref6_GoodWord.l0 kj2 a0 (wrap64 (x3_1 + 1))) = some r := by (rw [if_neg (show ¬ (false = true) by decide)] at H); first | done | exact H
              clear H
              have H := H1
              clear H1
              have H' := Aside0.mk H
              clear H
              go_wp2
              go_roundg kj2
              case measure => have := HK1.out; have := HJ2.out; omega
              case rel => exact ⟨(wrap64 (x3_1 + 1)), (by first | rfl | (simp; done) | (simp only [i64_w, i32_w]; done) | (simp [*]; done)), H', ⟨by have := HK1.out; have := HJ2.out; omega⟩, by repeat (first | exact Drawn0.refl _ | apply Drawn0.step)⟩
      · rw [if_neg c2] at H
        have c2b0 : decide (x3_1 < (a0.size : Int)) = false := decide_eq_false c2
        clear c2
        by_cases c16 : (a0.size : Int) ≥ 1
        · rw [if_pos c16] at H
          have c16b0 : decide (1 ≤ (a0.size : Int)) = true := decide_eq_true c16
          have c16b1 : decide (1 ≤ a0.size) = true := decide_eq_true (by omega)
          clear c16
          obtain rfl := Option.some.inj H
          go_wp2
          go_ret
          exact ⟨by first | rfl | (simp; done) | (simp only [i64_w, i32_w]; done) | (simp [*]; done), by repeat (first | exact Drawn0.refl _ | apply Drawn0.step)⟩
        · rw [if_neg c16] at H
          have c16b0 : decide (1 ≤ (a0.size : Int)) = false := decide_eq_false c16
          have c16b1 : decide (1 ≤ a0.size) = false := decide_eq_false (by omega)
          clear c16
          obtain rfl := Option.some.inj H
          go_wp2
          go_ret
          exact ⟨by first | rfl | (simp; done) | (simp only [i64_w, i32_w]; done) | (simp [*]; done), by repeat (first | exact Drawn0.refl _ | apply Drawn0.step)⟩

end Go.Proofs.YthefdpioaapomaaDoor.PA
