/- (*pattern.Words).text, walked by hand: a text's row. -/
import Derived.Test.YthefdpioaapomaaGreatDoorKeyW
namespace Go.Proofs.YthefdpioaapomaaGreatDoor.Ext
set_option linter.unusedVariables false
set_option linter.unusedSimpArgs false
open Go.RowKit Go.Proofs.YthefdpioaapomaaGreatDoorW.PrintWords Go.Proofs.YthefdpioaapomaaGreatDoorW.PrintLast Go.Proofs.YthefdpioaapomaaGreatDoorW.PrintMore Go.Maps Go.WideMaps Go.Proofs.YthefdpioaapomaaGreatDoor.PA

def textW (ks : List (K6 × ByteArray)) (l : List ByteArray) : Int × List (K6 × ByteArray) := match keyW l with
  | none => (2, ks)
  | some k => match getK ks k with
    | some _ => (10, ks)
    | none => (0, (k, blankK (l.getD (l.length - 1) eS)) :: ks)
theorem growT_of_below {w w' : World} {row : Option Nat} (h : Below w.heap.size w w') : w.grownBy w' row := ⟨h.os, h.tape, h.output, h.size, fun i hi _ => h.block i hi⟩
theorem growT_trans {w W w' : World} {row : Option Nat} (hb : Below w.heap.size w W) (hg : W.grownBy w' row) : w.grownBy w' row :=
  ⟨hg.os.trans hb.os, hg.tape.trans hb.tape, hg.output.trans hb.output, Nat.le_trans hb.size hg.size, fun i hi hne => (hg.block i (Nat.lt_of_lt_of_le hi hb.size) hne).trans (hb.block i hi)⟩
/-- The words of a row make a key that a map may hold. -/
theorem keyW_small {l : List ByteArray} {k : K6} (hok : ∀ s ∈ l, TextOk s ∧ (someK s).size ≤ 100000) (h : keyW l = some k) : SmallK k := by
  match l, hok, h with
  | a0 :: a :: b :: l, hok, h =>
    have e : (0 : Nat) ≤ maxLen := Nat.zero_le _
    have big : ∀ s ∈ a0 :: a :: b :: l, s.size ≤ maxLen := fun s hs => by have := (hok s hs).1.size; unfold maxLen; omega
    have bigS : ∀ s ∈ a0 :: a :: b :: l, (someK s).size ≤ maxLen := fun s hs => by have := (hok s hs).2; unfold maxLen; omega
    have sm0 : (someK eS).size ≤ maxLen := by
      have : someK eS = eS := by unfold someK pattern_some.f; rw [if_neg (by rw [Lib.toList_data]; intro e; cases e)]; rfl
      rw [this]
      exact e
    have gd : ∀ j, (l.getD j eS).size ≤ maxLen ∧ (someK (l.getD j eS)).size ≤ maxLen := fun j => by
      rw [List.getD_eq_getElem?_getD]
      cases hj : l[j]? with
      | none => exact ⟨e, sm0⟩
      | some x =>
        have hx : x ∈ a0 :: a :: b :: l := List.mem_cons_of_mem _ (List.mem_cons_of_mem _ (List.mem_cons_of_mem _ (List.mem_of_getElem? hj)))
        exact ⟨big x hx, bigS x hx⟩
    have h0 := big a0 (by simp)
    have h1 := big a (by simp)
    have h2 := big b (by simp)
    rw [keyW] at h
    split at h
    · split at h
      · split at h
        · obtain rfl := Option.some.inj h
          exact ⟨h0, h1, h2, (gd 0).1, (gd 1).1, (gd 2).2⟩
        · cases h
      · split at h
        · split at h
          · obtain rfl := Option.some.inj h
            exact ⟨h0, h1, h2, (gd 0).1, (gd 1).2, e⟩
          · cases h
        · split at h
          · split at h
            · obtain rfl := Option.some.inj h
              exact ⟨h0, h1, h2, (gd 0).1, e, e⟩
            · cases h
          · split at h
            · obtain rfl := Option.some.inj h
              exact ⟨h0, h1, h2, e, e, e⟩
            · cases h
    · cases h
set_option maxHeartbeats 4000000 in
set_option maxRecDepth 100000 in
theorem text_any (B M Q n : Nat) (ks : List (K6 × ByteArray)) (ps : List (ByteArray × ByteArray)) (A : Option Addr) (c : Nat) (k : ByteArray) (l : List ByteArray) (w : World) (hG : Glob w) (hL : WordsAt w B M Q n ks ps) (hC : Kd.C Kd.string w A (k :: l).length (k :: l)) (hc : (k :: l).length ≤ c) (hok : ∀ s ∈ k :: l, TextOk s ∧ (someK s).size ≤ 100000) (hk : kindN k ≠ 0) (hn : n < maxLen) :
    Calls Tryz.prog 24 #[.pointer (some ⟨B, 0, none⟩), .slice A (k :: l).length c] w fun e w' => e = .returned (.int .i64 (textW ks (k :: l)).1) ∧ WordsAt w' B M Q (n + 1) (textW ks (k :: l)).2 ps ∧ w.grownBy w' (some M) := by
  obtain ⟨r, hr⟩ : ∃ r, textW ks (k :: l) = r := ⟨_, rfl⟩
  rw [hr]
  obtain ⟨er, ks2⟩ := r
  have hm : (k :: l).length ≤ 9223372036854775807 := hC.2.1
  obtain ⟨b0, o0, rfl, hcs⟩ := C_strsD hC (by simp)
  have HLast := hcs ((k :: l).length - 1) (by simp)
  have HZk : TextOk ((k :: l).getD ((k :: l).length - 1) eS) := by rw [List.getD_eq_getElem?_getD, List.getElem?_eq_getElem (by simp)]; exact (hok _ (List.getElem_mem _)).1
  have hkey := key_any (some ⟨b0, o0, none⟩) c l k w hG hC hc (fun s hs => (hok s hs).1) hk
  unfold textW at hr
  obtain ⟨ok, hko⟩ : ∃ x, keyW (k :: l) = x := ⟨_, rfl⟩
  have hsmall : ∀ k6, ok = some k6 → SmallK k6 := fun k6 h => keyW_small hok (hko.trans h)
  rw [hko] at hr hkey
  obtain ⟨z, hz⟩ : ∃ x, (k :: l).getD ((k :: l).length - 1) eS = x := ⟨_, rfl⟩
  have hz' : (k :: l).getD ((k :: l).length - 1) ByteArray.empty = z := hz
  rw [hz] at hr HZk
  rw [hz'] at HLast
  obtain ⟨nl, hnl⟩ : ∃ m, (k :: l).length = m := ⟨_, rfl⟩
  have hnl0 : 0 < nl := by rw [← hnl]; simp
  rw [hnl] at hkey hm hc HLast ⊢
  have HKey := Aside0.mk hkey
  have HR := Aside0.mk hr
  have HG := Aside0.mk hG
  have HL := Aside0.mk hL
  have HX := Aside0.mk HLast
  have HZ := Aside0.mk HZk
  have HS := Aside0.mk hsmall
  have HN := Aside0.mk hn
  clear hG hL hC hcs hok hk hr hn hkey HLast HZk hko hsmall hz hz' hnl
  dsimp only
  go_enter Tryz.func24, Tryz.ntmps24
  go_wp2_with fail
  refine HKey.out.mono ?_
  rintro e w1 ⟨hK, hb⟩
  have HB1 := Aside0.mk hb
  clear hb
  cases ok with
  | none =>
    obtain ⟨⟨q0, q1, q2, q3, q4, q5⟩, rfl⟩ := hK
    unfold encT
    dsimp only
    go_wp2_with fail
    go_ret
    obtain ⟨rfl, rfl⟩ := Prod.mk.inj HR.out
    exact ⟨rfl, (HL.out.below (below_alloc HB1.out _)).mono (Nat.le_succ _), growT_of_below (below_alloc HB1.out _)⟩
  | some k6 =>
    obtain ⟨q0, q1, q2, q3, q4, q5⟩ := k6
    have hK' : e = .returned (.tuple #[.agg #[.string q0, .string q1, .string q2, .string q3, .string q4, .string q5], .bool true]) := hK
    subst hK'
    have HSm := Aside0.mk (HS.out _ rfl)
    clear hK
    obtain ⟨g, hg⟩ : ∃ g, getK ks ⟨q0, q1, q2, q3, q4, q5⟩ = g := ⟨_, rfl⟩
    have hr := HR.out
    dsimp only at hr
    rw [hg] at hr
    have HR2 := Aside0.mk hr
    have hx : ∀ m, (Instr.lookup 48 (.map (some M)) (.agg #[.string q0, .string q1, .string q2, .string q3, .string q4, .string q5]) true).run Tryz.prog ((w1.alloc (.cells #[.string q0, .string q1, .string q2, .string q3, .string q4, .string q5] 32)).drewN m) = .ok (.tuple #[.string (g.getD ⟨#[]⟩), .bool g.isSome]) ((w1.alloc (.cells #[.string q0, .string q1, .string q2, .string q3, .string q4, .string q5] 32)).drewN m) := by
      intro m
      rw [← hg]
      exact HL.out.exact (k := ⟨q0, q1, q2, q3, q4, q5⟩) HSm.out (pw_below_drewN (below_alloc HB1.out _) m)
    have hmc := pw_cell_below (below_alloc HB1.out (.cells #[.string q0, .string q1, .string q2, .string q3, .string q4, .string q5] 32)) (blk_cell HL.out.blk 0)
    have HM := Aside0.mk (blk_cell HL.out.blk 0)
    clear hr hg
    cases g with
    | some x =>
      dsimp only [Option.getD_some, Option.isSome_some] at hx
      go_wp2_with fail
      go_quiet (fail)
      go_wp2_with fail
      go_ret
      obtain ⟨rfl, rfl⟩ := Prod.mk.inj HR2.out
      exact ⟨rfl, (HL.out.below (pw_below_drewN (below_alloc HB1.out _) _)).mono (Nat.le_succ _), growT_of_below (pw_below_drewN (below_alloc HB1.out _) _)⟩
    | none =>
      dsimp only [Option.getD_none, Option.isSome_none] at hx
      go_wp2_with fail
      go_quiet (fail)
      have HB5 : Aside0 (Below w.heap.size w ((w1.alloc (.cells #[.string q0, .string q1, .string q2, .string q3, .string q4, .string q5] 32)).drewN nq)) := ⟨pw_below_drewN (below_alloc HB1.out _) _⟩
      have BK5 : Aside0 (((w1.alloc (.cells #[.string q0, .string q1, .string q2, .string q3, .string q4, .string q5] 32)).drewN nq).heap[w1.heap.size]? = some (.cells #[.string q0, .string q1, .string q2, .string q3, .string q4, .string q5] 32 (0, 0))) := ⟨blk_new w1 _⟩
      generalize (w1.alloc (.cells #[.string q0, .string q1, .string q2, .string q3, .string q4, .string q5] 32)).drewN nq = w5 at HB5 BK5 ⊢
      clear hx hmc
      obtain ⟨zb, hzb⟩ : ∃ x, blankK z = x := ⟨_, rfl⟩
      have hr := HR2.out
      rw [hzb] at hr
      have HR3 := Aside0.mk hr
      have HZb := Aside0.mk hzb
      clear hzb hr
      have l1 : nl - 1 < nl := by omega
      go_wp2_with fail
      have e1 : wrap64 ((nl : Int) - 1) = ((nl - 1 : Nat) : Int) := by unfold wrap64; omega
      refine start_ (n := 13) (S := fun w' => w'.cell? ⟨B, 0, none⟩ = some (.map (some M)) ∧ w'.cell? ⟨w1.heap.size, 0, none⟩ = some (.string q0) ∧ w'.cell? ⟨w1.heap.size, 1, none⟩ = some (.string q1) ∧ w'.cell? ⟨w1.heap.size, 2, none⟩ = some (.string q2) ∧ w'.cell? ⟨w1.heap.size, 3, none⟩ = some (.string q3) ∧ w'.cell? ⟨w1.heap.size, 4, none⟩ = some (.string q4) ∧ w'.cell? ⟨w1.heap.size, 5, none⟩ = some (.string q5) ∧ w'.cell? ⟨b0, o0 + (nl - 1), none⟩ = some (.string z)) (ds := [12]) #[false, false, false, false, false, false, false, false, false, false, false, false, false] (by kernel_rfl) rfl rfl ⟨pw_cell_below (below_drew HB5.out) HM.out, (blk_cell (blk_drew BK5.out) 0).trans rfl, (blk_cell (blk_drew BK5.out) 1).trans rfl, (blk_cell (blk_drew BK5.out) 2).trans rfl, (blk_cell (blk_drew BK5.out) 3).trans rfl, (blk_cell (blk_drew BK5.out) 4).trans rfl, (blk_cell (blk_drew BK5.out) 5).trans rfl, pw_cell_below (below_drew HB5.out) HX.out⟩ (fun hHeld => ?_)
      refine pure_ (i := 0) (N := some 26) (v := ?_) (a' := ?_) #[true, false, false, false, false, false, false, false, false, false, false, false, false] rfl rfl (by kernel_rfl) (fun _ _ _ h => h) (Or.inl ⟨by rfl, ?_⟩) ?_ ?_
      rotate_left
      · intro w'
        go_simp
        with_reducible rfl
      rotate_left
      · simp only [Act.put, List.setIfInBounds_toArray, List.set_cons_zero, List.set_cons_succ, i64_w, i32_w]
        rfl
      refine pure_ (i := 1) (N := some 27) (v := ?_) (a' := ?_) #[true, true, false, false, false, false, false, false, false, false, false, false, false] rfl rfl (by kernel_rfl) (fun _ _ _ h => h) (Or.inl ⟨by rfl, ?_⟩) ?_ ?_
      rotate_left
      · intro w'
        go_simp
        with_reducible rfl
      rotate_left
      · simp only [Act.put, List.setIfInBounds_toArray, List.set_cons_zero, List.set_cons_succ, i64_w, i32_w]
        rfl
      refine pure_ (i := 2) (N := some 28) (v := ?_) (a' := ?_) #[true, true, true, false, false, false, false, false, false, false, false, false, false] rfl rfl (by kernel_rfl) (fun _ _ _ h => h) (Or.inl ⟨by rfl, ?_⟩) ?_ ?_
      rotate_left
      · intro w'
        go_simp
        with_reducible rfl
      rotate_left
      · simp only [Act.put, List.setIfInBounds_toArray, List.set_cons_zero, List.set_cons_succ, i64_w, i32_w]
        rfl
      refine pure_ (i := 5) (N := some 31) (v := ?_) (a' := ?_) #[true, true, true, false, false, true, false, false, false, false, false, false, false] rfl rfl (by kernel_rfl) (fun _ _ _ h => h) (Or.inl ⟨by rfl, ?_⟩) ?_ ?_
      rotate_left
      · intro w'
        go_simp
        with_reducible rfl
      rotate_left
      · simp only [Act.put, List.setIfInBounds_toArray, List.set_cons_zero, List.set_cons_succ, i64_w, i32_w]
        rfl
      refine pure_ (i := 6) (N := some 32) (v := ?_) (a' := ?_) #[true, true, true, false, false, true, true, false, false, false, false, false, false] rfl rfl (by kernel_rfl) (fun _ _ _ h => h) (Or.inl ⟨by rfl, ?_⟩) ?_ ?_
      rotate_left
      · intro w'
        go_simp
        with_reducible rfl
      rotate_left
      · simp only [Act.put, List.setIfInBounds_toArray, List.set_cons_zero, List.set_cons_succ, i64_w, i32_w]
        rfl
      refine pure_ (i := 7) (N := some 33) (v := ?_) (a' := ?_) #[true, true, true, false, false, true, true, true, false, false, false, false, false] rfl rfl (by kernel_rfl) (fun _ _ _ h => h) (Or.inl ⟨by rfl, ?_⟩) ?_ ?_
      rotate_left
      · intro w'
        go_simp
        with_reducible rfl
      rotate_left
      · simp only [Act.put, List.setIfInBounds_toArray, List.set_cons_zero, List.set_cons_succ, i64_w, i32_w]
        rfl
      refine pure_ (i := 8) (N := some 34) (v := ?_) (a' := ?_) #[true, true, true, false, false, true, true, true, true, false, false, false, false] rfl rfl (by kernel_rfl) (fun _ _ _ h => h) (Or.inl ⟨by rfl, ?_⟩) ?_ ?_
      rotate_left
      · intro w'
        go_simp
        with_reducible rfl
      rotate_left
      · simp only [Act.put, List.setIfInBounds_toArray, List.set_cons_zero, List.set_cons_succ, i64_w, i32_w]
        rfl
      refine pure_ (i := 9) (N := some 35) (v := ?_) (a' := ?_) #[true, true, true, false, false, true, true, true, true, true, false, false, false] rfl rfl (by kernel_rfl) (fun _ _ _ h => h) (Or.inl ⟨by rfl, ?_⟩) ?_ ?_
      rotate_left
      · intro w'
        go_simp
        with_reducible rfl
      rotate_left
      · simp only [Act.put, List.setIfInBounds_toArray, List.set_cons_zero, List.set_cons_succ, i64_w, i32_w]
        rfl
      refine take_ (i := 3) (N := some 29) (v := ?_) (a' := ?_) #[true, true, true, true, false, true, true, true, true, true, false, false, false] rfl rfl (by kernel_rfl) (fun _ _ _ h => h) (Or.inl ⟨by rfl, ?_⟩) hHeld ?_ ?_
      rotate_left
      · rintro w' ⟨s0, s1, s2, s3, s4, s5, s6, s7⟩
        go_simp
        with_reducible rfl
      rotate_left
      · simp only [Act.put, List.setIfInBounds_toArray, List.set_cons_zero, List.set_cons_succ, i64_w, i32_w]
        rfl
      refine take_ (i := 4) (N := some 30) (v := ?_) (a' := ?_) #[true, true, true, true, true, true, true, true, true, true, false, false, false] rfl rfl (by kernel_rfl) (fun _ _ _ h => h) (Or.inl ⟨by rfl, ?_⟩) hHeld ?_ ?_
      rotate_left
      · rintro w' ⟨s0, s1, s2, s3, s4, s5, s6, s7⟩
        go_simp
        with_reducible rfl
      rotate_left
      · simp only [Act.put, List.setIfInBounds_toArray, List.set_cons_zero, List.set_cons_succ, i64_w, i32_w]
        rfl
      refine take_ (i := 10) (N := some 36) (v := ?_) (a' := ?_) #[true, true, true, true, true, true, true, true, true, true, true, false, false] rfl rfl (by kernel_rfl) (fun _ _ _ h => h) (Or.inl ⟨by rfl, ?_⟩) hHeld ?_ ?_
      rotate_left
      · rintro w' ⟨s0, s1, s2, s3, s4, s5, s6, s7⟩
        go_simp
        with_reducible rfl
      rotate_left
      · simp only [Act.put, List.setIfInBounds_toArray, List.set_cons_zero, List.set_cons_succ, i64_w, i32_w]
        rfl
      refine one_ (i := 11) (N := some 37) #[true, true, true, true, true, true, true, true, true, true, true, true, false] rfl rfl (by kernel_rfl) (by decide) (fun K hK => ?_)
      refine goes_ Tryz.func19 (by kernel_rfl) rfl #[.string z] (by rfl) rfl rfl (by simp only [List.map_toArray, List.map_cons, List.map_nil]; rfl) ?_
      with_reducible refine (blankK_any z zb _ (HG.out.below (below_drew HB5.out)) HZ.out HZb.out).mono ?_
      rintro e w7 ⟨rfl, hb7⟩
      refine ⟨_, rfl, ?_⟩
      have HB7 := Aside0.mk (below_step (below_drew HB5.out) hb7)
      have BK7 := Aside0.mk (blk_below (blk_drew BK5.out) hb7)
      obtain ⟨w6, hrun6, hL6, hg6⟩ := (HL.out.below HB7.out).putK HN.out HSm.out zb
      have HR6 := Aside0.mk hrun6
      have HL6 := Aside0.mk hL6
      have HG6 := Aside0.mk (growT_trans HB7.out hg6)
      clear hb7 hrun6 hL6 hg6
      refine hK.out _ _ ⟨pw_cell_below HB7.out HM.out, (blk_cell BK7.out 0).trans rfl, (blk_cell BK7.out 1).trans rfl, (blk_cell BK7.out 2).trans rfl, (blk_cell BK7.out 3).trans rfl, (blk_cell BK7.out 4).trans rfl, (blk_cell BK7.out 5).trans rfl, pw_cell_below HB7.out HX.out⟩ (fun hHeld => ?_)
      clear hK K
      refine norm_ (a' := ?_) ?_ ?_
      rotate_left
      · show Act.put _ (some 37) _ = _
        simp only [Act.put, List.setIfInBounds_toArray, List.set_cons_zero, List.set_cons_succ, i64_w, i32_w]
        rfl
      refine last_ (i := 12) (N := none) #[true, true, true, true, true, true, true, true, true, true, true, true, true] rfl rfl (by kernel_rfl) (by decide) (fun K hK => ?_)
      refine skip_ (w1 := w6) (by rfl) rfl ?_ ?_
      · have hr := HR6.out
        go_simp
      refine hK.out _ _ ?_
      clear hK K
      refine done_ (by kernel_rfl) ?_
      go_wp2_with fail
      go_ret
      obtain ⟨rfl, rfl⟩ := Prod.mk.inj HR3.out
      exact ⟨rfl, HL6.out, HG6.out⟩
end Go.Proofs.YthefdpioaapomaaGreatDoor.Ext
