/- The statement AtomKnown, walked by hand: it answers true. -/
import Derived.Test.YthefdpioaapomaaDoorKn9
namespace Go.Proofs.YthefdpioaapomaaDoor.Kn9
set_option linter.unusedVariables false
set_option linter.unusedSimpArgs false
open Go.RowKit Go.Proofs.YthefdpioaapomaaDoorW.PrintWords Go.Proofs.YthefdpioaapomaaDoorW.PrintLast Go.Proofs.YthefdpioaapomaaDoor.Ext Go.Proofs.YthefdpioaapomaaDoorW.PrintMore Go.Proofs.YthefdpioaapomaaDoor.PC Go.Proofs.YthefdpioaapomaaDoor.Pl Go.Proofs.YthefdpioaapomaaDoor.Pu9
def rowO (xs : List Bs) : Obj := .cells ((xs.map ofL).map Value.string).toArray 9
def badWorld (w : World) (z : Nat) : World :=
  ((((((((w.alloc (rowO [wSquare])).alloc (rowO [[112, 111, 119, 50], wMeter])).alloc (rowO [[112, 111, 119, 48, 52], wMeter])).alloc (rowO [[112, 111, 119, 49, 54], wMeter])).alloc (rowO [[107, 105, 108, 111]])).alloc (rowO [wSquare, [99, 117, 98, 105, 99], wMeter])).alloc (rowO [[109, 101, 116, 101, 114, 115]])).alloc
    (.cells #[.slice none 0 0, .slice (some ⟨z, 0, none⟩) 1 1, .slice (some ⟨z + 1, 0, none⟩) 2 2, .slice (some ⟨z + 1 + 1, 0, none⟩) 2 2, .slice (some ⟨z + 1 + 1 + 1, 0, none⟩) 2 2, .slice (some ⟨z + 1 + 1 + 1 + 1, 0, none⟩) 1 1, .slice (some ⟨z + 1 + 1 + 1 + 1 + 1, 0, none⟩) 3 3, .slice (some ⟨z + 1 + 1 + 1 + 1 + 1 + 1, 0, none⟩) 1 1] 29))
theorem badWorld_below (w : World) (z : Nat) : Below w.heap.size w (badWorld w z) := by
  unfold badWorld
  repeat (first | exact Below.refl _ _ | refine below_alloc ?_ _)
theorem rowC (w : World) (xs : List Bs) (n : Nat) (hn : xs.length = n) (hm : n ≤ 9223372036854775807) : Kd.C Kd.string (w.alloc (rowO xs)) (some ⟨w.heap.size, 0, none⟩) n (xs.map ofL) := by
  subst hn
  have h := litC w (xs.map ofL) (by rw [List.length_map]; exact hm)
  rw [List.length_map] at h
  exact h
theorem badWorld_C (w : World) (z : Nat) (hz : w.heap.size = z) : Kd.C (Kd.slice 9 Kd.string) (badWorld w z) (some ⟨z + 1 + 1 + 1 + 1 + 1 + 1 + 1, 0, none⟩) 8 (badL.map (·.map ofL)) := by
  subst hz
  have e : ∀ (x : World) (o : Obj), (x.alloc o).heap.size = x.heap.size + 1 := fun x o => by simp
  have h := rowsC (((((((w.alloc (rowO [wSquare])).alloc (rowO [[112, 111, 119, 50], wMeter])).alloc (rowO [[112, 111, 119, 48, 52], wMeter])).alloc (rowO [[112, 111, 119, 49, 54], wMeter])).alloc (rowO [[107, 105, 108, 111]])).alloc (rowO [wSquare, [99, 117, 98, 105, 99], wMeter])).alloc (rowO [[109, 101, 116, 101, 114, 115]])) (badL.map (·.map ofL))
    [.slice none 0 0, .slice (some ⟨w.heap.size, 0, none⟩) 1 1, .slice (some ⟨w.heap.size + 1, 0, none⟩) 2 2, .slice (some ⟨w.heap.size + 1 + 1, 0, none⟩) 2 2, .slice (some ⟨w.heap.size + 1 + 1 + 1, 0, none⟩) 2 2, .slice (some ⟨w.heap.size + 1 + 1 + 1 + 1, 0, none⟩) 1 1, .slice (some ⟨w.heap.size + 1 + 1 + 1 + 1 + 1, 0, none⟩) 3 3, .slice (some ⟨w.heap.size + 1 + 1 + 1 + 1 + 1 + 1, 0, none⟩) 1 1]
    (by decide) rfl ?_
  · simp only [e] at h
    exact h
  · intro j r v hr hv
    have rest : ∀ (x : World) (xs : List Bs) (n z : Nat), xs.length = n → n ≤ 100 → x.heap.size = z → ∀ y : World, Below (x.alloc (rowO xs)).heap.size (x.alloc (rowO xs)) y → ∃ A c, (Value.slice (some ⟨z, 0, none⟩) n n) = .slice A (xs.map ofL).length c ∧ (xs.map ofL).length ≤ c ∧ Kd.C Kd.string y A (xs.map ofL).length (xs.map ofL) := by
      intro x xs n z hn hm hz y hb
      subst hz
      refine ⟨some ⟨x.heap.size, 0, none⟩, n, by rw [List.length_map, hn], by rw [List.length_map, hn]; exact Nat.le_refl _, ?_⟩
      rw [List.length_map, hn]
      exact Kd.C_below (rowC x xs n hn (by omega)) hb
    match j, hr, hv with
    | 0, hr, hv => cases hr; cases hv; exact ⟨none, 0, rfl, Nat.le_refl _, Kd.C_nil _ _⟩
    | 1, hr, hv => cases hr; cases hv; exact rest w [wSquare] 1 _ rfl (by decide) rfl _ (by repeat (first | exact Below.refl _ _ | refine below_alloc ?_ _))
    | 2, hr, hv => cases hr; cases hv; exact rest (w.alloc (rowO [wSquare])) [[112, 111, 119, 50], wMeter] 2 _ rfl (by decide) (by simp only [e]) _ (by repeat (first | exact Below.refl _ _ | refine below_alloc ?_ _))
    | 3, hr, hv => cases hr; cases hv; exact rest ((w.alloc (rowO [wSquare])).alloc (rowO [[112, 111, 119, 50], wMeter])) [[112, 111, 119, 48, 52], wMeter] 2 _ rfl (by decide) (by simp only [e]) _ (by repeat (first | exact Below.refl _ _ | refine below_alloc ?_ _))
    | 4, hr, hv => cases hr; cases hv; exact rest (((w.alloc (rowO [wSquare])).alloc (rowO [[112, 111, 119, 50], wMeter])).alloc (rowO [[112, 111, 119, 48, 52], wMeter])) [[112, 111, 119, 49, 54], wMeter] 2 _ rfl (by decide) (by simp only [e]) _ (by repeat (first | exact Below.refl _ _ | refine below_alloc ?_ _))
    | 5, hr, hv => cases hr; cases hv; exact rest ((((w.alloc (rowO [wSquare])).alloc (rowO [[112, 111, 119, 50], wMeter])).alloc (rowO [[112, 111, 119, 48, 52], wMeter])).alloc (rowO [[112, 111, 119, 49, 54], wMeter])) [[107, 105, 108, 111]] 1 _ rfl (by decide) (by simp only [e]) _ (by repeat (first | exact Below.refl _ _ | refine below_alloc ?_ _))
    | 6, hr, hv => cases hr; cases hv; exact rest (((((w.alloc (rowO [wSquare])).alloc (rowO [[112, 111, 119, 50], wMeter])).alloc (rowO [[112, 111, 119, 48, 52], wMeter])).alloc (rowO [[112, 111, 119, 49, 54], wMeter])).alloc (rowO [[107, 105, 108, 111]])) [wSquare, [99, 117, 98, 105, 99], wMeter] 3 _ rfl (by decide) (by simp only [e]) _ (by repeat (first | exact Below.refl _ _ | refine below_alloc ?_ _))
    | 7, hr, hv => cases hr; cases hv; exact rest ((((((w.alloc (rowO [wSquare])).alloc (rowO [[112, 111, 119, 50], wMeter])).alloc (rowO [[112, 111, 119, 48, 52], wMeter])).alloc (rowO [[112, 111, 119, 49, 54], wMeter])).alloc (rowO [[107, 105, 108, 111]])).alloc (rowO [wSquare, [99, 117, 98, 105, 99], wMeter])) [[109, 101, 116, 101, 114, 115]] 1 _ rfl (by decide) (by simp only [e]) _ (by repeat (first | exact Below.refl _ _ | refine below_alloc ?_ _))
    | j + 8, hr, hv => cases hr
attribute [local go_sem high] eqA49
set_option maxHeartbeats 4000000 in
set_option maxRecDepth 100000 in
theorem AtomKnown_any (w : World) (hG : Glob w) : Calls Tryd.prog 11 #[] w fun e w' => e = .returned (.bool true) ∧ Below w.heap.size w w' := by
  have HG := Aside0.mk hG
  clear hG
  obtain ⟨kA, hA⟩ := Ev.rounds awake_ev
  have HA := Aside0.mk hA
  clear hA
  go_enter Tryd.func11, Tryd.ntmps11
  go_wp2_with fail
  refine (cubitlaw9_awake.calls kA true w HA.out rfl HG.out).mono ?_
  rintro e w1 ⟨rfl, hb⟩
  have HB := Aside0.mk hb
  clear hb HA
  -- a
  go_wp2_with fail
  refine (some_any _ (HG.out.below HB.out)).mono ?_
  rintro e w2 ⟨v2, rfl, hs, hb⟩
  have HS := Aside0.mk hs
  replace HB := Aside0.mk (below_step HB.out hb)
  clear hb hs
  go_wp2_with fail
  refine (parse_any _ ((HG.out.below HB.out).alloc _) _ (HS.out.below (below_alloc (Below.refl _ _) _)) _ _ _ [[107, 105, 108, 111, 103, 114, 97, 109]] rfl (Nat.le_refl _) (litC w2 [⟨#[107, 105, 108, 111, 103, 114, 97, 109]⟩] (by decide)) _ _ _ _ _ k_a).mono ?_
  rintro e w3 ⟨rfl, hb⟩
  replace HB := Aside0.mk (below_step (below_alloc HB.out _) hb)
  clear hb HS
  obtain ⟨ga, hga⟩ : ∃ g, g = w3.heap.size := ⟨_, rfl⟩
  have BA := Aside0.mk (hga ▸ blk_new w3 (.cells #[.string (ofL [107, 105, 108, 111]), .string (ofL [103, 114, 97, 109]), .int .i64 1] 49))
  -- b
  go_wp2_with fail
  rw [← hga]
  refine (some_any _ ((HG.out.below HB.out).alloc _)).mono ?_
  rintro e w4 ⟨v4, rfl, hs, hb⟩
  have HS := Aside0.mk hs
  replace BA := Aside0.mk (blk_below BA.out hb)
  replace HB := Aside0.mk (below_step (below_alloc HB.out _) hb)
  clear hb hs hga
  go_wp2_with fail
  refine (parse_any _ ((HG.out.below HB.out).alloc _) _ (HS.out.below (below_alloc (Below.refl _ _) _)) _ _ _ [[112, 111, 119, 49, 53, 45, 109, 101, 116, 101, 114]] rfl (Nat.le_refl _) (litC w4 [⟨#[112, 111, 119, 49, 53, 45, 109, 101, 116, 101, 114]⟩] (by decide)) _ _ _ _ _ k_b).mono ?_
  rintro e w5 ⟨rfl, hb⟩
  replace BA := Aside0.mk (blk_below (blk_alloc BA.out _) hb)
  replace HB := Aside0.mk (below_step (below_alloc HB.out _) hb)
  clear hb HS
  obtain ⟨gb, hgb⟩ : ∃ g, g = w5.heap.size := ⟨_, rfl⟩
  have BB := Aside0.mk (hgb ▸ blk_new w5 (.cells #[.string (ofL []), .string (ofL []), .int .i64 0] 49))
  -- c
  go_wp2_with fail
  rw [← hgb]
  refine (some_any _ ((HG.out.below HB.out).alloc _)).mono ?_
  rintro e w6 ⟨v6, rfl, hs, hb⟩
  have HS := Aside0.mk hs
  replace BA := Aside0.mk (blk_below (blk_alloc BA.out _) hb)
  replace BB := Aside0.mk (blk_below BB.out hb)
  replace HB := Aside0.mk (below_step (below_alloc HB.out _) hb)
  clear hb hs hgb
  go_wp2_with fail
  refine (parse_any _ ((HG.out.below HB.out).alloc _) _ (HS.out.below (below_alloc (Below.refl _ _) _)) _ _ _ [[112, 111, 119, 49, 53], wMeter] rfl (Nat.le_refl _) (litC w6 [⟨#[112, 111, 119, 49, 53]⟩, ofL wMeter] (by decide)) _ _ _ _ _ k_c).mono ?_
  rintro e w7 ⟨rfl, hb⟩
  replace BA := Aside0.mk (blk_below (blk_alloc BA.out _) hb)
  replace BB := Aside0.mk (blk_below (blk_alloc BB.out _) hb)
  replace HB := Aside0.mk (below_step (below_alloc HB.out _) hb)
  clear hb HS
  obtain ⟨gc, hgc⟩ : ∃ g, g = w7.heap.size := ⟨_, rfl⟩
  have BC := Aside0.mk (hgc ▸ blk_new w7 (.cells #[.string (ofL []), .string (ofL wMeter), .int .i64 15] 49))
  go_wp2_with fail
  rw [← hgc]
  change Code.wp _ _ _ _ (badWorld (w7.alloc (.cells #[.string (ofL []), .string (ofL wMeter), .int .i64 15] 49)) (gc + 1))
  have hC := badWorld_C (w7.alloc (.cells #[.string (ofL []), .string (ofL wMeter), .int .i64 15] 49)) (gc + 1) (by rw [hgc]; simp)
  have hb := badWorld_below (w7.alloc (.cells #[.string (ofL []), .string (ofL wMeter), .int .i64 15] 49)) (gc + 1)
  replace BA := Aside0.mk (blk_below (blk_alloc BA.out _) hb)
  replace BB := Aside0.mk (blk_below (blk_alloc BB.out _) hb)
  replace BC := Aside0.mk (blk_below BC.out hb)
  replace HB := Aside0.mk (below_step (below_alloc HB.out _) hb)
  clear hb
  generalize badWorld (w7.alloc (.cells #[.string (ofL []), .string (ofL wMeter), .int .i64 15] 49)) (gc + 1) = wl at BA BB BC HB hC ⊢
  clear hgc
  have HCl := Aside0.mk hC
  clear hC
  have HGl := Aside0.mk (HG.out.below HB.out)
  obtain ⟨gl, hgl⟩ : ∃ g, g = gc + 1 + 1 + 1 + 1 + 1 + 1 + 1 + 1 := ⟨_, rfl⟩
  rw [← hgl] at HCl ⊢
  clear hgl
  go_loopw [11] (fun i wr => ∃ k : Nat, k ≤ 8 ∧ i = .int .i64 k ∧ Aside0 (Below wl.heap.size wl wr)) (fun i _ => 8 - (intOf i).toNat)
  case atStart => exact ⟨0, by omega, rfl, ⟨Below.refl _ _⟩⟩
  case round =>
    obtain ⟨k, hk, rfl, HR⟩ := hrel
    by_cases hlt : k < 8
    · have hlen : (badL.map (·.map ofL)).length = 8 := rfl
      obtain ⟨ad, A0, c0, hA, hx, hc, hCr⟩ := rowAt (Kd.C_below HCl.out HR.out) (j := k) (by omega)
      have hkb : k < badL.length := hlt
      rw [show (badL.map (·.map ofL))[k]'(by omega) = (badL[k]).map ofL from by simp] at hx hc hCr
      have hbn := bad_none badL[k] (List.getElem_mem hkb)
      generalize badL[k] = l at hx hc hCr hbn
      rw [List.length_map] at hx hc hCr
      obtain ⟨⟨p, q, x, y, b⟩, hp⟩ : ∃ z, parseA sNames sPrefs l = z := ⟨_, rfl⟩
      rw [hp] at hbn
      obtain ⟨rfl, rfl, rfl⟩ : x = 0 ∧ y = 0 ∧ b = false := by simpa using hbn
      injection hA with hA
      subst hA
      rw [add_plain] at hx
      have HP := Aside0.mk hp
      have HX := Aside0.mk hx
      have HL := Aside0.mk hc
      have HC := Aside0.mk hCr
      have HGr := Aside0.mk (HGl.out.below HR.out)
      have HW : Aside0 (Below wr.heap.size wr wr.drew) := ⟨below_drew (Below.refl _ _)⟩
      have hi1 : (k : Int) < 8 := by omega
      have hi0 : (0 : Int) ≤ (k : Int) := by omega
      clear hp hx hc hCr hbn hlen hkb
      go_wp2_with fail
      refine start_ (n := 14) (S := fun w' => w'.cell? ⟨gl, k, none⟩ = some (.slice A0 l.length c0)) (ds := [11]) #[false, false, false, false, false, false, false, false, false, false, false, false, false, false] (by kernel_rfl) rfl rfl (pw_cell_below (below_drew (Below.refl _ _)) HX.out) (fun hHeld => ?_)
      refine pure_ (i := 1) (N := some 56) (v := ?_) (a' := ?_) #[false, true, false, false, false, false, false, false, false, false, false, false, false, false] rfl rfl (by kernel_rfl) (fun _ _ _ h => h) (Or.inl ⟨by rfl, ?_⟩) ?_ ?_
      rotate_left
      · intro w'
        go_simp
        with_reducible rfl
      rotate_left
      · simp only [Act.put, List.setIfInBounds_toArray, List.set_cons_zero, List.set_cons_succ, i64_w, i32_w]
        rfl
      refine pure_ (i := 2) (N := some 57) (v := ?_) (a' := ?_) #[false, true, true, false, false, false, false, false, false, false, false, false, false, false] rfl rfl (by kernel_rfl) (fun _ _ _ h => h) (Or.inl ⟨by rfl, ?_⟩) ?_ ?_
      rotate_left
      · intro w'
        go_simp
        with_reducible rfl
      rotate_left
      · simp only [Act.put, List.setIfInBounds_toArray, List.set_cons_zero, List.set_cons_succ, i64_w, i32_w]
        rfl
      refine pure_ (i := 3) (N := some 58) (v := ?_) (a' := ?_) #[false, true, true, true, false, false, false, false, false, false, false, false, false, false] rfl rfl (by kernel_rfl) (fun _ _ _ h => h) (Or.inl ⟨by rfl, ?_⟩) ?_ ?_
      rotate_left
      · intro w'
        go_simp
        with_reducible rfl
      rotate_left
      · simp only [Act.put, List.setIfInBounds_toArray, List.set_cons_zero, List.set_cons_succ, i64_w, i32_w]
        rfl
      refine take_ (i := 4) (N := some 59) (v := ?_) (a' := ?_) #[false, true, true, true, true, false, false, false, false, false, false, false, false, false] rfl rfl (by kernel_rfl) (fun _ _ _ h => h) (Or.inl ⟨by rfl, ?_⟩) hHeld ?_ ?_
      rotate_left
      · intro w' s0
        go_simp
        with_reducible rfl
      rotate_left
      · simp only [Act.put, List.setIfInBounds_toArray, List.set_cons_zero, List.set_cons_succ, i64_w, i32_w]
        rfl
      refine join_ (σ := Value × Nat) 3 #[true, true, true, true, true, true, true, true, true, true, true, false, false, false] (fun s => [(55, s.1), (60, .tuple #[.agg #[.string (ofL p), .string (ofL q), .int .i64 0], .int .i64 0, .bool false]), (54, .tuple #[.agg #[.string (ofL p), .string (ofL q), .int .i64 0], .int .i64 0, .bool false]), (61, .agg #[.string (ofL p), .string (ofL q), .int .i64 0]), (62, .int .i64 0), (63, .bool false), (12, .pointer (some ⟨s.2, 0, none⟩))]) (fun s w' => Below wr.heap.size wr w' ∧ w'.heap[s.2]? = some (.cells #[.string ⟨#[]⟩, .string ⟨#[]⟩, .int .i64 0] 49) ∧ wr.heap.size ≤ s.2) ?_ ?_
      rotate_left
      · intro hCont
        refine two_ (i := 0) (j := 10) (Ni := some 55) (Nj := some 12) #[true, true, true, true, true, false, false, false, false, false, false, false, false, false] #[false, true, true, true, true, false, false, false, false, false, true, false, false, false] rfl rfl rfl rfl (by kernel_rfl) (by decide) (by decide) (fun K hK => ?_) (fun K hK => ?_)
        · skip
          refine goes_ Tryd.func42 (by kernel_rfl) rfl #[] (by rfl) rfl rfl (by simp only [List.map_toArray, List.map_nil]) ?_
          with_reducible refine (some_any _ (HGr.out.below HW.out)).mono ?_
          rintro e w55 ⟨v55, rfl, hs, hb⟩
          refine ⟨_, rfl, ?_⟩
          have HS := Aside0.mk hs
          replace HW := Aside0.mk (below_step HW.out hb)
          clear hb hs
          refine hK.out _ _ (pw_cell_below HW.out HX.out) (fun hHeld => ?_)
          clear hK K
          refine norm_ (a' := ?_) ?_ ?_
          rotate_left
          · show Act.put _ (some 55) _ = _
            simp only [Act.put, List.setIfInBounds_toArray, List.set_cons_zero, List.set_cons_succ, i64_w, i32_w]
            rfl
          refine two_ (i := 5) (j := 10) (Ni := some 60) (Nj := some 12) #[true, true, true, true, true, true, false, false, false, false, false, false, false, false] #[true, true, true, true, true, false, false, false, false, false, true, false, false, false] rfl rfl rfl rfl (by kernel_rfl) (by decide) (by decide) (fun K hK => ?_) (fun K hK => ?_)
          · skip
            refine goes_ Tryd.func41 (by kernel_rfl) rfl #[v55, .slice A0 l.length c0] (by rfl) rfl rfl (by simp only [List.map_toArray, List.map_cons, List.map_nil]; rfl) ?_
            with_reducible refine (parse_any _ (HGr.out.below HW.out) _ HS.out _ _ _ l rfl HL.out (Kd.C_below HC.out HW.out) _ _ _ _ _ HP.out).mono ?_
            rintro e w60 ⟨rfl, hb⟩
            refine ⟨_, rfl, ?_⟩
            replace HW := Aside0.mk (below_step HW.out hb)
            clear hb HS
            refine hK.out _ _ (pw_cell_below HW.out HX.out) (fun hHeld => ?_)
            clear hK K
            refine norm_ (a' := ?_) ?_ ?_
            rotate_left
            · show Act.put _ (some 60) _ = _
              simp only [Act.put, List.setIfInBounds_toArray, List.set_cons_zero, List.set_cons_succ, i64_w, i32_w]
              rfl
            refine pure_ (i := 6) (N := some 54) (v := ?_) (a' := ?_) #[true, true, true, true, true, true, true, false, false, false, false, false, false, false] rfl rfl (by kernel_rfl) (fun _ _ _ h => h) (Or.inl ⟨by rfl, ?_⟩) ?_ ?_
            rotate_left
            · intro w'
              go_simp
              with_reducible rfl
            rotate_left
            · simp only [Act.put, List.setIfInBounds_toArray, List.set_cons_zero, List.set_cons_succ, i64_w, i32_w]
              rfl
            refine pure_ (i := 7) (N := some 61) (v := ?_) (a' := ?_) #[true, true, true, true, true, true, true, true, false, false, false, false, false, false] rfl rfl (by kernel_rfl) (fun _ _ _ h => h) (Or.inl ⟨by rfl, ?_⟩) ?_ ?_
            rotate_left
            · intro w'
              go_simp
              with_reducible rfl
            rotate_left
            · simp only [Act.put, List.setIfInBounds_toArray, List.set_cons_zero, List.set_cons_succ, i64_w, i32_w]
              rfl
            refine pure_ (i := 8) (N := some 62) (v := ?_) (a' := ?_) #[true, true, true, true, true, true, true, true, true, false, false, false, false, false] rfl rfl (by kernel_rfl) (fun _ _ _ h => h) (Or.inl ⟨by rfl, ?_⟩) ?_ ?_
            rotate_left
            · intro w'
              go_simp
              with_reducible rfl
            rotate_left
            · simp only [Act.put, List.setIfInBounds_toArray, List.set_cons_zero, List.set_cons_succ, i64_w, i32_w]
              rfl
            refine pure_ (i := 9) (N := some 63) (v := ?_) (a' := ?_) #[true, true, true, true, true, true, true, true, true, true, false, false, false, false] rfl rfl (by kernel_rfl) (fun _ _ _ h => h) (Or.inl ⟨by rfl, ?_⟩) ?_ ?_
            rotate_left
            · intro w'
              go_simp
              with_reducible rfl
            rotate_left
            · simp only [Act.put, List.setIfInBounds_toArray, List.set_cons_zero, List.set_cons_succ, i64_w, i32_w]
              rfl
            refine one_ (i := 10) (N := some 12) #[true, true, true, true, true, true, true, true, true, true, true, false, false, false] rfl rfl (by kernel_rfl) (by decide) (fun K hK => ?_)
            refine value_ (w1 := ?_) (v := ?_) (by rfl) rfl ?_ ?_
            rotate_left 2
            · go_simp
              constructor
              · rfl
              · rfl
            obtain ⟨g, hg⟩ : ∃ g, g = w60.heap.size := ⟨_, rfl⟩
            have HBX := Aside0.mk (hg ▸ blk_new w60 (.cells #[.string ⟨#[]⟩, .string ⟨#[]⟩, .int .i64 0] 49))
            have HGE : wr.heap.size ≤ g := by rw [hg]; exact below_size HW.out
            replace HW := Aside0.mk (below_alloc HW.out (.cells #[.string ⟨#[]⟩, .string ⟨#[]⟩, .int .i64 0] 49))
            try rw [← hg]
            have hg2 := Aside0.mk hg
            clear hg
            refine hK.out _ _ (pw_cell_below HW.out HX.out) (fun hHeld => ?_)
            clear hK K
            refine norm_ (a' := ?_) ?_ ?_
            rotate_left
            · show Act.put _ (some 12) _ = _
              simp only [Act.put, List.setIfInBounds_toArray, List.set_cons_zero, List.set_cons_succ, i64_w, i32_w]
              rfl
            exact norm_ (by simp only [putAll, Act.put, List.setIfInBounds_toArray, List.set_cons_zero, List.set_cons_succ]) (hCont (v55, g) _ ⟨HW.out, HBX.out, HGE⟩)
          · skip
            refine value_ (w1 := ?_) (v := ?_) (by rfl) rfl ?_ ?_
            rotate_left 2
            · go_simp
              constructor
              · rfl
              · rfl
            obtain ⟨g, hg⟩ : ∃ g, g = w55.heap.size := ⟨_, rfl⟩
            have HBX := Aside0.mk (hg ▸ blk_new w55 (.cells #[.string ⟨#[]⟩, .string ⟨#[]⟩, .int .i64 0] 49))
            have HGE : wr.heap.size ≤ g := by rw [hg]; exact below_size HW.out
            replace HS := Aside0.mk (HS.out.below (below_alloc (Below.refl _ _) (.cells #[.string ⟨#[]⟩, .string ⟨#[]⟩, .int .i64 0] 49)))
            replace HW := Aside0.mk (below_alloc HW.out (.cells #[.string ⟨#[]⟩, .string ⟨#[]⟩, .int .i64 0] 49))
            try rw [← hg]
            have hg2 := Aside0.mk hg
            clear hg
            refine hK.out _ _ (pw_cell_below HW.out HX.out) (fun hHeld => ?_)
            clear hK K
            refine norm_ (a' := ?_) ?_ ?_
            rotate_left
            · show Act.put _ (some 12) _ = _
              simp only [Act.put, List.setIfInBounds_toArray, List.set_cons_zero, List.set_cons_succ, i64_w, i32_w]
              rfl
            refine one_ (i := 5) (N := some 60) #[true, true, true, true, true, true, false, false, false, false, true, false, false, false] rfl rfl (by kernel_rfl) (by decide) (fun K hK => ?_)
            refine goes_ Tryd.func41 (by kernel_rfl) rfl #[v55, .slice A0 l.length c0] (by rfl) rfl rfl (by simp only [List.map_toArray, List.map_cons, List.map_nil]; rfl) ?_
            with_reducible refine (parse_any _ (HGr.out.below HW.out) _ HS.out _ _ _ l rfl HL.out (Kd.C_below HC.out HW.out) _ _ _ _ _ HP.out).mono ?_
            rintro e w60 ⟨rfl, hb⟩
            refine ⟨_, rfl, ?_⟩
            replace HBX := Aside0.mk (blk_below HBX.out hb)
            replace HW := Aside0.mk (below_step HW.out hb)
            clear hb HS
            refine hK.out _ _ (pw_cell_below HW.out HX.out) (fun hHeld => ?_)
            clear hK K
            refine norm_ (a' := ?_) ?_ ?_
            rotate_left
            · show Act.put _ (some 60) _ = _
              simp only [Act.put, List.setIfInBounds_toArray, List.set_cons_zero, List.set_cons_succ, i64_w, i32_w]
              rfl
            refine pure_ (i := 6) (N := some 54) (v := ?_) (a' := ?_) #[true, true, true, true, true, true, true, false, false, false, true, false, false, false] rfl rfl (by kernel_rfl) (fun _ _ _ h => h) (Or.inl ⟨by rfl, ?_⟩) ?_ ?_
            rotate_left
            · intro w'
              go_simp
              with_reducible rfl
            rotate_left
            · simp only [Act.put, List.setIfInBounds_toArray, List.set_cons_zero, List.set_cons_succ, i64_w, i32_w]
              rfl
            refine pure_ (i := 7) (N := some 61) (v := ?_) (a' := ?_) #[true, true, true, true, true, true, true, true, false, false, true, false, false, false] rfl rfl (by kernel_rfl) (fun _ _ _ h => h) (Or.inl ⟨by rfl, ?_⟩) ?_ ?_
            rotate_left
            · intro w'
              go_simp
              with_reducible rfl
            rotate_left
            · simp only [Act.put, List.setIfInBounds_toArray, List.set_cons_zero, List.set_cons_succ, i64_w, i32_w]
              rfl
            refine pure_ (i := 8) (N := some 62) (v := ?_) (a' := ?_) #[true, true, true, true, true, true, true, true, true, false, true, false, false, false] rfl rfl (by kernel_rfl) (fun _ _ _ h => h) (Or.inl ⟨by rfl, ?_⟩) ?_ ?_
            rotate_left
            · intro w'
              go_simp
              with_reducible rfl
            rotate_left
            · simp only [Act.put, List.setIfInBounds_toArray, List.set_cons_zero, List.set_cons_succ, i64_w, i32_w]
              rfl
            refine pure_ (i := 9) (N := some 63) (v := ?_) (a' := ?_) #[true, true, true, true, true, true, true, true, true, true, true, false, false, false] rfl rfl (by kernel_rfl) (fun _ _ _ h => h) (Or.inl ⟨by rfl, ?_⟩) ?_ ?_
            rotate_left
            · intro w'
              go_simp
              with_reducible rfl
            rotate_left
            · simp only [Act.put, List.setIfInBounds_toArray, List.set_cons_zero, List.set_cons_succ, i64_w, i32_w]
              rfl
            exact norm_ (by simp only [putAll, Act.put, List.setIfInBounds_toArray, List.set_cons_zero, List.set_cons_succ]) (hCont (v55, g) _ ⟨HW.out, HBX.out, HGE⟩)
        · skip
          refine value_ (w1 := ?_) (v := ?_) (by rfl) rfl ?_ ?_
          rotate_left 2
          · go_simp
            constructor
            · rfl
            · rfl
          obtain ⟨g, hg⟩ : ∃ g, g = wr.heap.size := ⟨_, rfl⟩
          have HBX := Aside0.mk (blk_drew (hg ▸ blk_new wr (.cells #[.string ⟨#[]⟩, .string ⟨#[]⟩, .int .i64 0] 49)))
          have HGE : wr.heap.size ≤ g := by rw [hg]; exact below_size (Below.refl _ _)
          replace HW := Aside0.mk (below_alloc (Below.refl wr.heap.size wr) (.cells #[.string ⟨#[]⟩, .string ⟨#[]⟩, .int .i64 0] 49))
          replace HW := Aside0.mk (below_drew HW.out)
          try rw [← hg]
          have hg2 := Aside0.mk hg
          clear hg
          refine hK.out _ _ (pw_cell_below HW.out HX.out) (fun hHeld => ?_)
          clear hK K
          refine norm_ (a' := ?_) ?_ ?_
          rotate_left
          · show Act.put _ (some 12) _ = _
            simp only [Act.put, List.setIfInBounds_toArray, List.set_cons_zero, List.set_cons_succ, i64_w, i32_w]
            rfl
          refine one_ (i := 0) (N := some 55) #[true, true, true, true, true, false, false, false, false, false, true, false, false, false] rfl rfl (by kernel_rfl) (by decide) (fun K hK => ?_)
          refine goes_ Tryd.func42 (by kernel_rfl) rfl #[] (by rfl) rfl rfl (by simp only [List.map_toArray, List.map_nil]) ?_
          with_reducible refine (some_any _ (HGr.out.below HW.out)).mono ?_
          rintro e w55 ⟨v55, rfl, hs, hb⟩
          refine ⟨_, rfl, ?_⟩
          have HS := Aside0.mk hs
          replace HBX := Aside0.mk (blk_below HBX.out hb)
          replace HW := Aside0.mk (below_step HW.out hb)
          clear hb hs
          refine hK.out _ _ (pw_cell_below HW.out HX.out) (fun hHeld => ?_)
          clear hK K
          refine norm_ (a' := ?_) ?_ ?_
          rotate_left
          · show Act.put _ (some 55) _ = _
            simp only [Act.put, List.setIfInBounds_toArray, List.set_cons_zero, List.set_cons_succ, i64_w, i32_w]
            rfl
          refine one_ (i := 5) (N := some 60) #[true, true, true, true, true, true, false, false, false, false, true, false, false, false] rfl rfl (by kernel_rfl) (by decide) (fun K hK => ?_)
          refine goes_ Tryd.func41 (by kernel_rfl) rfl #[v55, .slice A0 l.length c0] (by rfl) rfl rfl (by simp only [List.map_toArray, List.map_cons, List.map_nil]; rfl) ?_
          with_reducible refine (parse_any _ (HGr.out.below HW.out) _ HS.out _ _ _ l rfl HL.out (Kd.C_below HC.out HW.out) _ _ _ _ _ HP.out).mono ?_
          rintro e w60 ⟨rfl, hb⟩
          refine ⟨_, rfl, ?_⟩
          replace HBX := Aside0.mk (blk_below HBX.out hb)
          replace HW := Aside0.mk (below_step HW.out hb)
          clear hb HS
          refine hK.out _ _ (pw_cell_below HW.out HX.out) (fun hHeld => ?_)
          clear hK K
          refine norm_ (a' := ?_) ?_ ?_
          rotate_left
          · show Act.put _ (some 60) _ = _
            simp only [Act.put, List.setIfInBounds_toArray, List.set_cons_zero, List.set_cons_succ, i64_w, i32_w]
            rfl
          refine pure_ (i := 6) (N := some 54) (v := ?_) (a' := ?_) #[true, true, true, true, true, true, true, false, false, false, true, false, false, false] rfl rfl (by kernel_rfl) (fun _ _ _ h => h) (Or.inl ⟨by rfl, ?_⟩) ?_ ?_
          rotate_left
          · intro w'
            go_simp
            with_reducible rfl
          rotate_left
          · simp only [Act.put, List.setIfInBounds_toArray, List.set_cons_zero, List.set_cons_succ, i64_w, i32_w]
            rfl
          refine pure_ (i := 7) (N := some 61) (v := ?_) (a' := ?_) #[true, true, true, true, true, true, true, true, false, false, true, false, false, false] rfl rfl (by kernel_rfl) (fun _ _ _ h => h) (Or.inl ⟨by rfl, ?_⟩) ?_ ?_
          rotate_left
          · intro w'
            go_simp
            with_reducible rfl
          rotate_left
          · simp only [Act.put, List.setIfInBounds_toArray, List.set_cons_zero, List.set_cons_succ, i64_w, i32_w]
            rfl
          refine pure_ (i := 8) (N := some 62) (v := ?_) (a' := ?_) #[true, true, true, true, true, true, true, true, true, false, true, false, false, false] rfl rfl (by kernel_rfl) (fun _ _ _ h => h) (Or.inl ⟨by rfl, ?_⟩) ?_ ?_
          rotate_left
          · intro w'
            go_simp
            with_reducible rfl
          rotate_left
          · simp only [Act.put, List.setIfInBounds_toArray, List.set_cons_zero, List.set_cons_succ, i64_w, i32_w]
            rfl
          refine pure_ (i := 9) (N := some 63) (v := ?_) (a' := ?_) #[true, true, true, true, true, true, true, true, true, true, true, false, false, false] rfl rfl (by kernel_rfl) (fun _ _ _ h => h) (Or.inl ⟨by rfl, ?_⟩) ?_ ?_
          rotate_left
          · intro w'
            go_simp
            with_reducible rfl
          rotate_left
          · simp only [Act.put, List.setIfInBounds_toArray, List.set_cons_zero, List.set_cons_succ, i64_w, i32_w]
            rfl
          exact norm_ (by simp only [putAll, Act.put, List.setIfInBounds_toArray, List.set_cons_zero, List.set_cons_succ]) (hCont (v55, g) _ ⟨HW.out, HBX.out, HGE⟩)
      rintro ⟨v55, g⟩ wj ⟨hbj, hbx, hge⟩
      replace HW := Aside0.mk hbj
      dsimp only at hbx hge
      have hz0 : wj.cell? ⟨g, 0, none⟩ = some (.string ⟨#[]⟩) := (blk_cell hbx 0).trans rfl
      have hz1 : wj.cell? ⟨g, 1, none⟩ = some (.string ⟨#[]⟩) := (blk_cell hbx 1).trans rfl
      have hz2 : wj.cell? ⟨g, 2, none⟩ = some (.int .i64 0) := (blk_cell hbx 2).trans rfl
      have hf0 := blk_frozen hbx 0
      have hf1 := blk_frozen hbx 1
      have hf2 := blk_frozen hbx 2
      clear hbj hbx
      dsimp only
      have hHeld : wj.cell? ⟨gl, k, none⟩ = some (.slice A0 l.length c0) := pw_cell_below HW.out HX.out
      refine norm_ (a' := ?_) ?_ ?_
      rotate_left
      · simp only [putAll, Act.put, List.setIfInBounds_toArray, List.set_cons_zero, List.set_cons_succ]
        rfl
      refine last_ (i := 11) (N := none) #[true, true, true, true, true, true, true, true, true, true, true, true, false, false] rfl rfl (by kernel_rfl) (by decide) (fun K hK => ?_)
      refine skip_ (w1 := ?_) (by rfl) rfl ?_ ?_
      rotate_left
      · go_simp
        rfl
      refine hK.out _ _ ?_
      clear hK K
      refine pure_ (i := 12) (N := some 13) (v := ?_) (a' := ?_) #[true, true, true, true, true, true, true, true, true, true, true, true, true, false] rfl rfl (by kernel_rfl) (fun _ _ _ h => h) (Or.inl ⟨by rfl, ?_⟩) ?_ ?_
      rotate_left
      · intro w'
        go_simp
        with_reducible rfl
      rotate_left
      · simp only [Act.put, List.setIfInBounds_toArray, List.set_cons_zero, List.set_cons_succ, i64_w, i32_w]
        rfl
      refine pure_ (i := 13) (N := some 14) (v := ?_) (a' := ?_) #[true, true, true, true, true, true, true, true, true, true, true, true, true, true] rfl rfl (by kernel_rfl) (fun _ _ _ h => h) (Or.inl ⟨by rfl, ?_⟩) ?_ ?_
      rotate_left
      · intro w'
        go_simp
        with_reducible rfl
      rotate_left
      · simp only [Act.put, List.setIfInBounds_toArray, List.set_cons_zero, List.set_cons_succ, i64_w, i32_w]
        rfl
      refine done_ (by kernel_rfl) ?_
      have HWe := Aside0.mk (below_set (below_set (below_set HW.out hge (j := 0) (v := .string (ofL p))) hge (j := 1) (v := .string (ofL q))) hge (j := 2) (v := .int .i64 0))
      try go_wp2
      go_roundw
      case rel => exact ⟨k + 1, by omega, by go_num, ⟨below_step HR.out HWe.out⟩⟩
      case measure => simp [intOf]; omega
    · obtain rfl : k = 8 := by omega
      rw [show ((8 : Nat) : Int) = 8 from rfl]
      go_wp2_with fail
      have hN := litC wr (badN.map ofL) (by decide)
      have hbl := Below.trans (below_alloc (Below.refl wr.heap.size wr) (.cells ((badN.map ofL).map Value.string).toArray 9)) (Below.refl _ _)
      change Code.wp _ _ _ _ (wr.alloc (.cells ((badN.map ofL).map Value.string).toArray 9))
      replace BA := Aside0.mk (blk_below (blk_below BA.out HR.out) hbl)
      replace BB := Aside0.mk (blk_below (blk_below BB.out HR.out) hbl)
      replace BC := Aside0.mk (blk_below (blk_below BC.out HR.out) hbl)
      replace HB := Aside0.mk (below_step (below_step HB.out HR.out) hbl)
      clear hbl HGl HR HCl
      generalize hgn : wr.heap.size = gn at hN ⊢
      generalize wr.alloc (.cells ((badN.map ofL).map Value.string).toArray 9) = wm at BA BB BC HB hN ⊢
      clear hgn
      have HN := Aside0.mk hN
      clear hN
      have HGl := Aside0.mk (HG.out.below HB.out)
      go_loopw [16] (fun i wr => ∃ k : Nat, k ≤ 9 ∧ i = .int .i64 k ∧ Aside0 (Below wm.heap.size wm wr)) (fun i _ => 9 - (intOf i).toNat)
      case atStart => exact ⟨0, by omega, rfl, ⟨Below.refl _ _⟩⟩
      case round =>
        obtain ⟨k, hk, rfl, HR⟩ := hrel
        by_cases hlt : k < 9
        · have hkb : k < badN.length := hlt
          obtain ⟨ad, hA, hx⟩ := Kd.at_string HN.out (k : Int) (by omega) (by show (k : Int) < ((9 : Nat) : Int); omega)
          injection hA with hA
          subst hA
          rw [add_plain, Int.toNat_natCast, rd_map badN hkb] at hx
          have hno := badN_no badN[k] (List.getElem_mem hkb)
          have hsh := badN_short badN[k] (List.getElem_mem hkb)
          generalize badN[k] = s at hx hno hsh
          replace hx := pw_cell_below HR.out hx
          have HX := Aside0.mk hx
          have HNo := Aside0.mk hno
          have HSh := Aside0.mk hsh
          have HGr := Aside0.mk (HGl.out.below HR.out)
          have hi1 : (k : Int) < 9 := by omega
          have hi0 : (0 : Int) ≤ (k : Int) := by omega
          clear hno hsh hkb
          have hml : ∀ x ∈ [s], x.length ≤ maxLen := by
            intro x hx
            rw [List.mem_singleton.1 hx]
            have := HSh.out
            unfold maxLen; omega
          have HML := Aside0.mk hml
          clear hml
          have hrw : rowB [s] [] = false := by rw [rowB, HNo.out]; rfl
          have HRW := Aside0.mk hrw
          clear hrw
          go_wp2_with fail
          refine (good_any _ (HGr.out.alloc _) _ _ _ _ _ _ [s] [] rfl rfl (Nat.le_refl _) (Nat.le_refl _) (litC wr [ofL s] (by show 1 ≤ 9223372036854775807; decide)) (Kd.C_nil _ _) HML.out (by simp) false (by rw [HRW.out]; rfl)).mono ?_
          rintro e w11 ⟨rfl, hb⟩
          have HW := Aside0.mk (below_step (below_alloc (Below.refl wr.heap.size wr) _) hb)
          clear hb hx
          have hx := pw_cell_below HW.out HX.out
          go_wp2_with fail
          refine (good_any _ ((HGr.out.below HW.out).alloc _) _ _ _ _ _ _ [] [s] rfl rfl (Nat.le_refl _) (Nat.le_refl _) (Kd.C_nil _ _) (litC w11 [ofL s] (by show 1 ≤ 9223372036854775807; decide)) (by simp) HML.out false (by rw [HRW.out]; rfl)).mono ?_
          rintro e w12 ⟨rfl, hb⟩
          replace HW := Aside0.mk (below_step (below_alloc HW.out _) hb)
          clear hb hx
          go_wp2_with fail
          go_roundw
          case rel => exact ⟨k + 1, by omega, by go_num, ⟨below_step HR.out HW.out⟩⟩
          case measure => simp [intOf]; omega
        · obtain rfl : k = 9 := by omega
          rw [show ((9 : Nat) : Int) = 9 from rfl]
          have ha0 : wr.cell? ⟨ga, 0, none⟩ = some (.string (ofL [107, 105, 108, 111])) := (blk_cell (blk_below BA.out HR.out) 0).trans rfl
          have ha1 : wr.cell? ⟨ga, 1, none⟩ = some (.string (ofL [103, 114, 97, 109])) := (blk_cell (blk_below BA.out HR.out) 1).trans rfl
          have ha2 : wr.cell? ⟨ga, 2, none⟩ = some (.int .i64 1) := (blk_cell (blk_below BA.out HR.out) 2).trans rfl
          have hb0 : wr.cell? ⟨gb, 0, none⟩ = some (.string (ofL [])) := (blk_cell (blk_below BB.out HR.out) 0).trans rfl
          have hb1 : wr.cell? ⟨gb, 1, none⟩ = some (.string (ofL [])) := (blk_cell (blk_below BB.out HR.out) 1).trans rfl
          have hb2 : wr.cell? ⟨gb, 2, none⟩ = some (.int .i64 0) := (blk_cell (blk_below BB.out HR.out) 2).trans rfl
          have hc2 : wr.cell? ⟨gc, 2, none⟩ = some (.int .i64 15) := (blk_cell (blk_below BC.out HR.out) 2).trans rfl
          replace HB := Aside0.mk (below_step HB.out HR.out)
          have HGr := Aside0.mk (HGl.out.below HR.out)
          clear BA BB BC HR HN HGl
          have e1 : (ofL [107, 105, 108, 111]).toList = [107, 105, 108, 111] := ofL_toList _
          have e2 : (ofL [103, 114, 97, 109]).toList = [103, 114, 97, 109] := ofL_toList _
          have e3 : (ofL []).toList = [] := ofL_toList _
          go_wp2_with fail
          have E1 := Aside0.mk e1
          clear e1 e2 e3 ha0 ha1 ha2 hb0 hb1 hb2 hc2 E1
          refine (good_any _ (HGr.out.alloc _) _ _ _ _ _ _ [[97], [97]] [] rfl rfl (Nat.le_refl _) (Nat.le_refl _) (litC wr [⟨#[97]⟩, ⟨#[97]⟩] (by decide)) (Kd.C_nil _ _) (by unfold maxLen; decide) (by simp) false (by rfl)).mono ?_
          rintro e w21 ⟨rfl, hb⟩
          replace HB := Aside0.mk (below_step (below_alloc HB.out _) hb)
          clear hb HGr
          go_wp2_with fail
          refine (good_any _ (((HG.out.below HB.out).alloc _).alloc _) _ _ _ _ _ _ [[97]] [[97]] rfl rfl (Nat.le_refl _) (Nat.le_refl _) (Kd.C_alloc (litC w21 [⟨#[97]⟩] (by decide)) _) (litZ (w21.alloc (.cells #[.string ⟨#[97]⟩] 9)) (w21.heap.size + 1) (by simp) [⟨#[97]⟩] (by decide)) (by unfold maxLen; decide) (by unfold maxLen; decide) true (by rfl)).mono ?_
          rintro e w22 ⟨rfl, hb⟩
          replace HB := Aside0.mk (below_step (below_alloc (below_alloc HB.out _) _) hb)
          clear hb
          go_wp2_with fail
          refine (good_any _ ((HG.out.below HB.out).alloc _) _ _ _ _ _ _ [[112, 111, 119]] [] rfl rfl (Nat.le_refl _) (Nat.le_refl _) (litC w22 [⟨#[112, 111, 119]⟩] (by decide)) (Kd.C_nil _ _) (by unfold maxLen; decide) (by simp) true (by rfl)).mono ?_
          rintro e w23 ⟨rfl, hb⟩
          replace HB := Aside0.mk (below_step (below_alloc HB.out _) hb)
          clear hb
          have s0 := ofL_toList []
          have s1 := ofL_toList [99, 117, 98, 105, 99, 45, 97]
          go_wp2_with fail
          refine (show_any _ (HG.out.below HB.out) ⟨#[]⟩ ⟨#[97]⟩ 0 [] (by decide) (by rfl)).mono ?_
          rintro e w24 ⟨rfl, hb⟩
          replace HB := Aside0.mk (below_step HB.out hb)
          clear hb
          go_wp2_with fail
          refine (show_any _ (HG.out.below HB.out) ⟨#[]⟩ ⟨#[97]⟩ 16 [] (by decide) (by rfl)).mono ?_
          rintro e w25 ⟨rfl, hb⟩
          replace HB := Aside0.mk (below_step HB.out hb)
          clear hb
          go_wp2_with fail
          refine (show_any _ (HG.out.below HB.out) ⟨#[]⟩ ⟨#[97]⟩ 3 [99, 117, 98, 105, 99, 45, 97] (by decide) (by rfl)).mono ?_
          rintro e w26 ⟨rfl, hb⟩
          replace HB := Aside0.mk (below_step HB.out hb)
          clear hb
          go_wp2_with fail
          refine (less_any _ (HG.out.below HB.out) ⟨⟨#[122]⟩, ⟨#[97]⟩, 0⟩ ⟨⟨#[]⟩, ⟨#[98]⟩, 0⟩ true (by rfl)).mono ?_
          rintro e w27 ⟨rfl, hb⟩
          replace HB := Aside0.mk (below_step HB.out hb)
          clear hb
          go_wp2_with fail
          go_ret
          exact ⟨rfl, HB.out⟩
end Go.Proofs.YthefdpioaapomaaDoor.Kn9
