/- The statement PatternChain, walked by hand: it answers true. -/
import Derived.Test.YthefdpioaapomaaGreatDoorHeavyW
namespace Go.Proofs.YthefdpioaapomaaGreatDoor.Pz
set_option linter.unusedVariables false
set_option linter.unusedSimpArgs false
open Go.RowKit Go.Proofs.YthefdpioaapomaaGreatDoorW.PrintWords Go.Proofs.YthefdpioaapomaaGreatDoorW.PrintLast Go.Proofs.YthefdpioaapomaaGreatDoor.Ext Go.Proofs.YthefdpioaapomaaGreatDoorW.PrintMore Go.Proofs.YthefdpioaapomaaGreatDoor.PA Go.Proofs.YthefdpioaapomaaGreatDoor.Pl

theorem loadW_ps : ∀ (rs : List S41) (x : StW) (j : Nat), PsOk x.2 j → (∀ r ∈ rs, ∀ s ∈ r.f1, s.size ≤ maxLen) → PsOk (loadW rs x).2.2.2 (j + rs.length)
  | [], x, j, h, _ => h
  | r :: rs, x, j, h, hl => by
    rw [loadW]
    split
    · have := loadW_ps rs (stepW x r.f1).2 (j + 1) (h.step (hl r List.mem_cons_self)) (fun q hq => hl q (List.mem_cons_of_mem _ hq))
      rw [List.length_cons, show j + (rs.length + 1) = j + 1 + rs.length by omega]
      exact this
    · exact ⟨Nat.le_trans h.len (Nat.le_add_right _ _), h.val, h.fin⟩
end Go.Proofs.YthefdpioaapomaaGreatDoor.Pz
namespace Go.Proofs.YthefdpioaapomaaGreatDoor.Ext
set_option linter.unusedVariables false
set_option linter.unusedSimpArgs false
open Go.RowKit Go.Proofs.YthefdpioaapomaaGreatDoorW.PrintWords
theorem Ends.cons {ps : PsW} : ∀ {f : List ByteArray} {s : ByteArray}, Ends ps f s → ∃ c, f = s :: c
  | [], _, h => h.elim
  | x :: c, s, h => ⟨c, by rw [h.1]⟩
theorem Ends.next {ps : PsW} {x y s : ByteArray} {c : List ByteArray} (h : Ends ps (x :: y :: c) s) : Ends ps (y :: c) y := by
  obtain ⟨_, ⟨_, h⟩ | ⟨hs, ⟨_, h⟩ | ⟨p, _, h⟩⟩⟩ := h
  · cases h
  · cases h
    exact ⟨rfl, .inl ⟨rfl, rfl⟩⟩
  · have := h.1
    subst this
    exact h
theorem Ends.from {ps : PsW} {x y s : ByteArray} {c : List ByteArray} (h : Ends ps (x :: y :: c) s) : y = rootB ∨ ∃ e ∈ ps, e.2 = y := by
  obtain ⟨_, ⟨_, h⟩ | ⟨hs, ⟨_, h⟩ | ⟨p, hg, h⟩⟩⟩ := h
  · cases h
  · cases h
    exact .inl rfl
  · have := h.1
    subst this
    exact .inr (getS_mem hg)
theorem Ends.last {ps : PsW} : ∀ {f : List ByteArray} {s : ByteArray}, Ends ps f s → f.getLast? = some rootB
  | [], _, h => h.elim
  | [x], s, h => by
    obtain ⟨rfl, ⟨h, _⟩ | ⟨_, ⟨_, h⟩ | ⟨p, _, h⟩⟩⟩ := h
    · rw [h]; rfl
    · cases h
    · exact h.elim
  | x :: y :: c, s, h => by
    rw [List.getLast?_cons_cons]
    exact Ends.last h.next
theorem Ends.nodup {ps : PsW} : ∀ {f : List ByteArray} {s : ByteArray}, Ends ps f s → f.Nodup
  | [], _, h => h.elim
  | [x], s, h => by simp
  | x :: y :: c, s, h => by
    have hn := h.next
    refine List.nodup_cons.2 ⟨fun hm => ?_, Ends.nodup hn⟩
    have hx : x = s := h.1
    subst hx
    by_cases hr : x = rootB
    · rcases h.2 with ⟨_, h⟩ | ⟨h, _⟩
      · cases h
      · exact h hr
    · obtain ⟨g, hg, hl⟩ := hn.suffix hm hr
      have := Ends.det hg h
      rw [this] at hl
      simp only [List.length_cons] at hl
      omega
end Go.Proofs.YthefdpioaapomaaGreatDoor.Ext
namespace Go.Proofs.YthefdpioaapomaaGreatDoor.Pz
set_option linter.unusedVariables false
set_option linter.unusedSimpArgs false
open Go.RowKit Go.Proofs.YthefdpioaapomaaGreatDoorW.PrintWords Go.Proofs.YthefdpioaapomaaGreatDoorW.PrintLast Go.Proofs.YthefdpioaapomaaGreatDoor.Ext Go.Proofs.YthefdpioaapomaaGreatDoorW.PrintMore Go.Proofs.YthefdpioaapomaaGreatDoor.PA Go.Proofs.YthefdpioaapomaaGreatDoor.Pl
theorem C_tail {w : World} {b o : Nat} {x : ByteArray} {t : List ByteArray} (h : Kd.C Kd.string w (some ⟨b, o, none⟩) (x :: t).length (x :: t)) : Kd.C Kd.string w (some ⟨b, o + 1, none⟩) t.length t := by
  have hm := h.2.1
  obtain ⟨b', o', e, hc⟩ := C_strsD h (by simp)
  cases e
  refine ⟨rfl, by simp only [List.length_cons] at hm; omega, fun _ => ⟨_, rfl, fun j y hy => ⟨[.string y], rfl, rfl, fun i v hv => ?_⟩⟩⟩
  match i, hv with
  | 0, hv =>
    obtain rfl := Option.some.inj hv
    have hj : j < t.length := (List.getElem?_eq_some_iff.1 hy).1
    have h1 := hc (j + 1) (by simp only [List.length_cons]; omega)
    rw [List.getD_cons_succ, List.getD_eq_getElem?_getD, hy, show o + (j + 1) = o + 1 + j by omega] at h1
    simp [Kd.string, Kd.scalar, Addr.add]
    split
    · rename_i h0
      subst h0
      simpa using h1
    · exact h1
theorem texts22_at (l : List ByteArray) (hl : l.length < 1000000000000) (A0 A1 : Option Addr) (c0 c1 n : Nat) (w : World) (hn : n = l.length) (h0 : Kd.C Kd.string w A0 l.length l) (hc0 : l.length ≤ c0) (h1 : Kd.C Kd.string w A1 l.length l) (hc1 : l.length ≤ c1) (hG : Glob w) :
    Calls Tryz.prog 11 #[.slice A0 l.length c0, .slice A1 n c1] w fun e w' => e = .returned (.bool true) ∧ Below w.heap.size w w' := by
  subst hn
  exact texts22_any l hl A0 A1 c0 c1 w h0 hc0 h1 hc1 hG
set_option maxHeartbeats 4000000 in
set_option maxRecDepth 100000 in
theorem PatternChain_any (A : Option Addr) (c : Nat) (l : List S41) (s : ByteArray) (w : World) (hC : Kd.C k41 w A l.length l) (hc : l.length ≤ c) (hG : Glob w) :
    Calls Tryz.prog 6 #[.slice A l.length c, .string s] w fun e w' => e = .returned (.bool true) ∧ Below w.heap.size w w' := by
  have HG := Aside0.mk hG
  have HC := Aside0.mk hC
  clear hG hC
  obtain ⟨ns, hns⟩ : ∃ n, n = s.size := ⟨_, rfl⟩
  have HS := Aside0.mk hns
  have zs := hns.symm
  clear hns
  go_enter Tryz.func6, Tryz.ntmps6
  go_wp2_with fail
  refine (awake22_any w HG.out).mono ?_
  rintro e w1 ⟨rfl, hb⟩
  have HB := Aside0.mk hb
  clear hb
  go_wp2_with fail
  refine (heavy_any A c l w1 (Kd.C_below HC.out HB.out) hc (HG.out.below HB.out)).mono ?_
  rintro e w2 ⟨rfl, hb⟩
  replace HB := Aside0.mk (below_step HB.out hb)
  clear hb
  by_cases hv : heavyB l = true
  · rw [hv]
    clear hv
    go_wp2_with fail
    go_ret
    exact ⟨rfl, HB.out⟩
  have HV := Aside0.mk (heavyB_no (Bool.eq_false_iff.2 hv))
  rw [Bool.eq_false_iff.2 hv]
  clear hv
  by_cases ha : 20 < ns
  · have ha' : (20 : Int) < (ns : Int) := by omega
    go_wp2_with fail
    go_ret
    exact ⟨rfl, HB.out⟩
  have fa : ¬ (20 : Int) < (ns : Int) := by omega
  go_wp2_with fail
  refine (loadW_any l A c w2 (HG.out.below HB.out) (Kd.C_below HC.out HB.out) hc (by have := HV.out.1; omega) (fun r hr t ht => textOkB t (by have := (HV.out.2 r hr).2 t ht; omega))).mono ?_
  rintro e w3 ⟨hL0, hb⟩
  replace HB := Aside0.mk (below_step HB.out hb)
  clear hb
  have HP := Aside0.mk (loadW_ps l ([], []) 0 ⟨Nat.le_refl _, (fun e he => by cases he), AllEnd.nil⟩ (fun r hr t ht => by have := (HV.out.2 r hr).2 t ht; unfold maxLen; omega))
  generalize loadW l ([], []) = x at hL0 HP
  obtain ⟨x0, x1, ks, ps⟩ := x
  rcases hL0 with ⟨h0, B, M, Q, n, rfl, hL⟩ | ⟨h0, rfl⟩
  case inr =>
    have h0' : x1 ≠ 0 := h0
    have f1 : (x1 == 0) = false := beq_eq_false_iff_ne.2 h0'
    have f2 : (x1 != 0) = true := bne_iff_ne.2 h0'
    clear h0 h0'
    go_wp2_with fail
    go_ret
    exact ⟨rfl, HB.out⟩
  have HL : Aside0 (WordsAt w3 B M Q n ks ps) := ⟨hL⟩
  have HE := Aside0.mk (chainW_ends HP.out.fin s)
  obtain ⟨f, hf⟩ : ∃ f, f = chainW ps s := ⟨_, rfl⟩
  rw [← hf] at HE
  clear hL h0 hf
  go_wp2_with fail
  refine (chain_any B M Q n ks ps s f w3 HL.out (by rw [← HS.out]; unfold maxLen; omega) HE.out (by have := HE.out.short; have := HP.out.len; have := HV.out.1; omega) (fun e he => (HP.out.val e he).1)).mono ?_
  rintro e w4 ⟨v, rfl, hR, hb⟩
  replace HL := Aside0.mk (HL.out.below hb)
  replace HB := Aside0.mk (below_step HB.out hb)
  clear hb
  obtain ⟨A1, c1, rfl, hc1, hC1⟩ := Kd.R_reads hR
  clear hR
  have hne : 0 < f.length := by obtain ⟨t, ht⟩ := HE.out.cons; rw [ht]; simp
  have hfl : f.length ≤ 62 := by have := HE.out.short; have := HP.out.len; have := HV.out.1; omega
  obtain ⟨b4, o4, rfl, hcs⟩ := C_strsD hC1 hne
  have HF := Aside0.mk hC1
  have HCs := Aside0.mk hcs
  have hlast := hcs (f.length - 1) (by omega)
  rw [show f.getD (f.length - 1) ByteArray.empty = rootB by rw [List.getD_eq_getElem?_getD, ← List.getLast?_eq_getElem?, HE.out.last]; rfl] at hlast
  obtain ⟨zr, hzr⟩ : ∃ z, z = rootB := ⟨_, rfl⟩
  rw [← hzr] at hlast
  have tr : (zr.toList == ([114, 111, 111, 116] : List UInt8)) = true := by rw [hzr, Lib.toList_data]; rfl
  have e1 : ((f.length : Int) - 1).toNat = f.length - 1 := by omega
  have g1 : (0 : Int) ≤ (f.length : Int) - 1 := by omega
  have g0 : ¬ (f.length : Int) < 1 := by omega
  have HND := Aside0.mk (HE.out.nodup)
  clear hC1 hcs hzr
  go_wp2_with fail
  clear hlast e1 g1 tr
  go_loopw [9] (fun i wr => ∃ (j : Nat), j ≤ f.length ∧ i = .int .i64 j ∧ Aside0 (Below w4.heap.size w4 wr)) (fun i _ => f.length - (intOf i).toNat)
  case atStart => exact ⟨0, Nat.zero_le _, rfl, ⟨Below.refl _ _⟩⟩
  case round =>
    obtain ⟨j, hj, rfl, HBr⟩ := hrel
    by_cases hlt : j < f.length
    case neg =>
      obtain rfl : f.length = j := by omega
      clear hlt
      by_cases h2 : f.length < 2
      case pos =>
        have h2' : decide ((f.length : Int) < 2) = true := decide_eq_true (by omega)
        go_wp2_with fail
        refine start_ (n := 21) (S := fun w' => True) (ds := []) #[false, false, false, false, false, false, false, false, false, false, false, false, false, false, false, false, false, false, false, false, false] (by kernel_rfl) rfl rfl trivial (fun hHeld => ?_)
        refine pure_ (i := 0) (N := some 69) (v := ?_) (a' := ?_) #[true, false, false, false, false, false, false, false, false, false, false, false, false, false, false, false, false, false, false, false, false] rfl rfl (by kernel_rfl) (fun _ _ _ h => h) (Or.inl ⟨by rfl, ?_⟩) ?_ ?_
        rotate_left
        · intro w'
          go_simp
          with_reducible rfl
        rotate_left
        · simp only [Act.put, List.setIfInBounds_toArray, List.set_cons_zero, List.set_cons_succ, i64_w, i32_w]
          rfl
        refine pure_ (i := 1) (N := some 70) (v := ?_) (a' := ?_) #[true, true, false, false, false, false, false, false, false, false, false, false, false, false, false, false, false, false, false, false, false] rfl rfl (by kernel_rfl) (fun _ _ _ h => h) (Or.inl ⟨by rfl, ?_⟩) ?_ ?_
        rotate_left
        · intro w'
          go_simp
          with_reducible rfl
        rotate_left
        · simp only [Act.put, List.setIfInBounds_toArray, List.set_cons_zero, List.set_cons_succ, i64_w, i32_w]
          rfl
        refine pure_ (i := 2) (N := some 71) (v := ?_) (a' := ?_) #[true, true, true, false, false, false, false, false, false, false, false, false, false, false, false, false, false, false, false, false, false] rfl rfl (by kernel_rfl) (fun _ _ _ h => h) (Or.inl ⟨by rfl, ?_⟩) ?_ ?_
        rotate_left
        · intro w'
          go_simp
          with_reducible rfl
        rotate_left
        · simp only [Act.put, List.setIfInBounds_toArray, List.set_cons_zero, List.set_cons_succ, i64_w, i32_w]
          rfl
        refine pure_ (i := 3) (N := some 72) (v := ?_) (a' := ?_) #[true, true, true, true, false, false, false, false, false, false, false, false, false, false, false, false, false, false, false, false, false] rfl rfl (by kernel_rfl) (fun _ _ _ h => h) (Or.inl ⟨by rfl, ?_⟩) ?_ ?_
        rotate_left
        · intro w'
          go_simp
          with_reducible rfl
        rotate_left
        · simp only [Act.put, List.setIfInBounds_toArray, List.set_cons_zero, List.set_cons_succ, i64_w, i32_w]
          rfl
        refine pure_ (i := 4) (N := some 73) (v := undef) (a' := ?_) #[true, true, true, true, true, false, false, false, false, false, false, false, false, false, false, false, false, false, false, false, false] rfl rfl (by kernel_rfl) (fun _ _ _ h => h) (Or.inr ⟨by rfl, rfl⟩) ?_ ?_
        rotate_left
        · simp only [Act.put, List.setIfInBounds_toArray, List.set_cons_zero, List.set_cons_succ, i64_w, i32_w]
          rfl
        refine pure_ (i := 5) (N := some 74) (v := undef) (a' := ?_) #[true, true, true, true, true, true, false, false, false, false, false, false, false, false, false, false, false, false, false, false, false] rfl rfl (by kernel_rfl) (fun _ _ _ h => h) (Or.inr ⟨by rfl, rfl⟩) ?_ ?_
        rotate_left
        · simp only [Act.put, List.setIfInBounds_toArray, List.set_cons_zero, List.set_cons_succ, i64_w, i32_w]
          rfl
        refine pure_ (i := 6) (N := some 75) (v := undef) (a' := ?_) #[true, true, true, true, true, true, true, false, false, false, false, false, false, false, false, false, false, false, false, false, false] rfl rfl (by kernel_rfl) (fun _ _ _ h => h) (Or.inr ⟨by rfl, rfl⟩) ?_ ?_
        rotate_left
        · simp only [Act.put, List.setIfInBounds_toArray, List.set_cons_zero, List.set_cons_succ, i64_w, i32_w]
          rfl
        refine pure_ (i := 7) (N := some 76) (v := undef) (a' := ?_) #[true, true, true, true, true, true, true, true, false, false, false, false, false, false, false, false, false, false, false, false, false] rfl rfl (by kernel_rfl) (fun _ _ _ h => h) (Or.inr ⟨by rfl, rfl⟩) ?_ ?_
        rotate_left
        · simp only [Act.put, List.setIfInBounds_toArray, List.set_cons_zero, List.set_cons_succ, i64_w, i32_w]
          rfl
        refine pure_ (i := 8) (N := some 77) (v := undef) (a' := ?_) #[true, true, true, true, true, true, true, true, true, false, false, false, false, false, false, false, false, false, false, false, false] rfl rfl (by kernel_rfl) (fun _ _ _ h => h) (Or.inr ⟨by rfl, rfl⟩) ?_ ?_
        rotate_left
        · simp only [Act.put, List.setIfInBounds_toArray, List.set_cons_zero, List.set_cons_succ, i64_w, i32_w]
          rfl
        refine pure_ (i := 9) (N := some 78) (v := undef) (a' := ?_) #[true, true, true, true, true, true, true, true, true, true, false, false, false, false, false, false, false, false, false, false, false] rfl rfl (by kernel_rfl) (fun _ _ _ h => h) (Or.inr ⟨by rfl, rfl⟩) ?_ ?_
        rotate_left
        · simp only [Act.put, List.setIfInBounds_toArray, List.set_cons_zero, List.set_cons_succ, i64_w, i32_w]
          rfl
        refine pure_ (i := 10) (N := some 79) (v := undef) (a' := ?_) #[true, true, true, true, true, true, true, true, true, true, true, false, false, false, false, false, false, false, false, false, false] rfl rfl (by kernel_rfl) (fun _ _ _ h => h) (Or.inr ⟨by rfl, rfl⟩) ?_ ?_
        rotate_left
        · simp only [Act.put, List.setIfInBounds_toArray, List.set_cons_zero, List.set_cons_succ, i64_w, i32_w]
          rfl
        refine pure_ (i := 11) (N := some 80) (v := undef) (a' := ?_) #[true, true, true, true, true, true, true, true, true, true, true, true, false, false, false, false, false, false, false, false, false] rfl rfl (by kernel_rfl) (fun _ _ _ h => h) (Or.inr ⟨by rfl, rfl⟩) ?_ ?_
        rotate_left
        · simp only [Act.put, List.setIfInBounds_toArray, List.set_cons_zero, List.set_cons_succ, i64_w, i32_w]
          rfl
        refine pure_ (i := 12) (N := some 81) (v := undef) (a' := ?_) #[true, true, true, true, true, true, true, true, true, true, true, true, true, false, false, false, false, false, false, false, false] rfl rfl (by kernel_rfl) (fun _ _ _ h => h) (Or.inr ⟨by rfl, rfl⟩) ?_ ?_
        rotate_left
        · simp only [Act.put, List.setIfInBounds_toArray, List.set_cons_zero, List.set_cons_succ, i64_w, i32_w]
          rfl
        refine pure_ (i := 13) (N := some 82) (v := undef) (a' := ?_) #[true, true, true, true, true, true, true, true, true, true, true, true, true, true, false, false, false, false, false, false, false] rfl rfl (by kernel_rfl) (fun _ _ _ h => h) (Or.inr ⟨by rfl, rfl⟩) ?_ ?_
        rotate_left
        · simp only [Act.put, List.setIfInBounds_toArray, List.set_cons_zero, List.set_cons_succ, i64_w, i32_w]
          rfl
        refine pure_ (i := 14) (N := some 83) (v := undef) (a' := ?_) #[true, true, true, true, true, true, true, true, true, true, true, true, true, true, true, false, false, false, false, false, false] rfl rfl (by kernel_rfl) (fun _ _ _ h => h) (Or.inr ⟨by rfl, rfl⟩) ?_ ?_
        rotate_left
        · simp only [Act.put, List.setIfInBounds_toArray, List.set_cons_zero, List.set_cons_succ, i64_w, i32_w]
          rfl
        refine pure_ (i := 15) (N := some 84) (v := undef) (a' := ?_) #[true, true, true, true, true, true, true, true, true, true, true, true, true, true, true, true, false, false, false, false, false] rfl rfl (by kernel_rfl) (fun _ _ _ h => h) (Or.inr ⟨by rfl, rfl⟩) ?_ ?_
        rotate_left
        · simp only [Act.put, List.setIfInBounds_toArray, List.set_cons_zero, List.set_cons_succ, i64_w, i32_w]
          rfl
        refine pure_ (i := 16) (N := some 85) (v := undef) (a' := ?_) #[true, true, true, true, true, true, true, true, true, true, true, true, true, true, true, true, true, false, false, false, false] rfl rfl (by kernel_rfl) (fun _ _ _ h => h) (Or.inr ⟨by rfl, rfl⟩) ?_ ?_
        rotate_left
        · simp only [Act.put, List.setIfInBounds_toArray, List.set_cons_zero, List.set_cons_succ, i64_w, i32_w]
          rfl
        refine pure_ (i := 17) (N := some 86) (v := undef) (a' := ?_) #[true, true, true, true, true, true, true, true, true, true, true, true, true, true, true, true, true, true, false, false, false] rfl rfl (by kernel_rfl) (fun _ _ _ h => h) (Or.inr ⟨by rfl, rfl⟩) ?_ ?_
        rotate_left
        · simp only [Act.put, List.setIfInBounds_toArray, List.set_cons_zero, List.set_cons_succ, i64_w, i32_w]
          rfl
        refine pure_ (i := 18) (N := some 87) (v := undef) (a' := ?_) #[true, true, true, true, true, true, true, true, true, true, true, true, true, true, true, true, true, true, true, false, false] rfl rfl (by kernel_rfl) (fun _ _ _ h => h) (Or.inr ⟨by rfl, rfl⟩) ?_ ?_
        rotate_left
        · simp only [Act.put, List.setIfInBounds_toArray, List.set_cons_zero, List.set_cons_succ, i64_w, i32_w]
          rfl
        refine pure_ (i := 19) (N := some 88) (v := ?_) (a' := ?_) #[true, true, true, true, true, true, true, true, true, true, true, true, true, true, true, true, true, true, true, true, false] rfl rfl (by kernel_rfl) (fun _ _ _ h => h) (Or.inl ⟨by rfl, ?_⟩) ?_ ?_
        rotate_left
        · intro w'
          go_simp
          with_reducible rfl
        rotate_left
        · simp only [Act.put, List.setIfInBounds_toArray, List.set_cons_zero, List.set_cons_succ, i64_w, i32_w]
          rfl
        refine pure_ (i := 20) (N := some 4) (v := ?_) (a' := ?_) #[true, true, true, true, true, true, true, true, true, true, true, true, true, true, true, true, true, true, true, true, true] rfl rfl (by kernel_rfl) (fun _ _ _ h => h) (Or.inl ⟨by rfl, ?_⟩) ?_ ?_
        rotate_left
        · intro w'
          go_simp
          with_reducible rfl
        rotate_left
        · simp only [Act.put, List.setIfInBounds_toArray, List.set_cons_zero, List.set_cons_succ, i64_w, i32_w]
          rfl
        refine done_ (by kernel_rfl) ?_
        go_wp2_with fail
        go_ret
        exact ⟨rfl, below_step HB.out (by first | exact below_drew HBr.out | exact HBr.out | exact pw_below_drewN HBr.out _)⟩
      have h2' : decide ((f.length : Int) < 2) = false := decide_eq_false (by omega)
      have i1 : (1 : Int) < (f.length : Int) := by omega
      have i0 : (0 : Int) < (f.length : Int) := by omega
      have i2 : 1 ≤ f.length := by omega
      have i3 : 1 ≤ c1 := by omega
      have i4 : (1 : Int) ≤ (f.length : Int) := by omega
      obtain ⟨t, ht⟩ := HE.out.cons
      obtain ⟨y, t', rfl⟩ : ∃ y t', t = y :: t' := by
        cases t with
        | nil => rw [ht] at h2; exact absurd (by simp) h2
        | cons y t' => exact ⟨y, t', rfl⟩
      have hyz : y.size ≤ maxLen := by have h := HE.out; rw [ht] at h; rcases Ext.Ends.from h with h | ⟨e, he, h⟩; · rw [h]; decide
                                       · rw [← h]; exact (HP.out.val e he).1
      have HE2 : Aside0 (Ext.Ends ps (y :: t') y) := by have h := HE.out; rw [ht] at h; exact ⟨Ext.Ends.next h⟩
      have HX0 : Aside0 (wr.cell? ⟨b4, o4, none⟩ = some (.string s)) := ⟨by have h := HCs.out 0 (by omega); rw [ht] at h; exact pw_cell_below HBr.out h⟩
      have HX1 : Aside0 (wr.cell? ⟨b4, o4 + 1, none⟩ = some (.string y)) := ⟨by have h := HCs.out 1 (by omega); rw [ht] at h; exact pw_cell_below HBr.out h⟩
      have HGL : Aside0 (f.length - 1 = (y :: t').length) := ⟨by rw [ht]; simp⟩
      have HT : Aside0 (Kd.C Kd.string wr (some ⟨b4, o4 + 1, none⟩) (y :: t').length (y :: t')) := ⟨Kd.C_below (by have h := HF.out; rw [ht] at h; exact C_tail h) HBr.out⟩
      generalize (y :: t') = g at HE2 HGL HT
      have HYm : Aside0 (y.size ≤ maxLen ∧ g.length ≤ 100000) := ⟨hyz, by rw [← HGL.out]; omega⟩
      clear ht
      have hss : (s.toList == s.toList) = true := by simp
      replace HL : Aside0 (WordsAt wr B M Q n ks ps) := ⟨HL.out.below HBr.out⟩
      replace HB : Aside0 (Below w.heap.size w wr) := ⟨below_step HB.out HBr.out⟩
      clear HF HCs HBr HC
      go_wp2_with fail
      refine start_ (n := 21) (S := fun w' => w'.cell? ⟨b4, o4, none⟩ = some (.string s) ∧ w'.cell? ⟨b4, o4 + 1, none⟩ = some (.string y)) (ds := []) #[false, false, false, false, false, false, false, false, false, false, false, false, false, false, false, false, false, false, false, false, false] (by kernel_rfl) rfl rfl ⟨pw_cell_below (below_drew (Below.refl _ _)) HX0.out, pw_cell_below (below_drew (Below.refl _ _)) HX1.out⟩ (fun hHeld => ?_)
      refine pure_ (i := 0) (N := some 69) (v := ?_) (a' := ?_) #[true, false, false, false, false, false, false, false, false, false, false, false, false, false, false, false, false, false, false, false, false] rfl rfl (by kernel_rfl) (fun _ _ _ h => h) (Or.inl ⟨by rfl, ?_⟩) ?_ ?_
      rotate_left
      · intro w'
        go_simp
        with_reducible rfl
      rotate_left
      · simp only [Act.put, List.setIfInBounds_toArray, List.set_cons_zero, List.set_cons_succ, i64_w, i32_w]
        rfl
      refine pure_ (i := 1) (N := some 70) (v := ?_) (a' := ?_) #[true, true, false, false, false, false, false, false, false, false, false, false, false, false, false, false, false, false, false, false, false] rfl rfl (by kernel_rfl) (fun _ _ _ h => h) (Or.inl ⟨by rfl, ?_⟩) ?_ ?_
      rotate_left
      · intro w'
        go_simp
        with_reducible rfl
      rotate_left
      · simp only [Act.put, List.setIfInBounds_toArray, List.set_cons_zero, List.set_cons_succ, i64_w, i32_w]
        rfl
      refine pure_ (i := 2) (N := some 71) (v := ?_) (a' := ?_) #[true, true, true, false, false, false, false, false, false, false, false, false, false, false, false, false, false, false, false, false, false] rfl rfl (by kernel_rfl) (fun _ _ _ h => h) (Or.inl ⟨by rfl, ?_⟩) ?_ ?_
      rotate_left
      · intro w'
        go_simp
        with_reducible rfl
      rotate_left
      · simp only [Act.put, List.setIfInBounds_toArray, List.set_cons_zero, List.set_cons_succ, i64_w, i32_w]
        rfl
      refine pure_ (i := 3) (N := some 72) (v := ?_) (a' := ?_) #[true, true, true, true, false, false, false, false, false, false, false, false, false, false, false, false, false, false, false, false, false] rfl rfl (by kernel_rfl) (fun _ _ _ h => h) (Or.inl ⟨by rfl, ?_⟩) ?_ ?_
      rotate_left
      · intro w'
        go_simp
        with_reducible rfl
      rotate_left
      · simp only [Act.put, List.setIfInBounds_toArray, List.set_cons_zero, List.set_cons_succ, i64_w, i32_w]
        rfl
      refine pure_ (i := 4) (N := some 73) (v := ?_) (a' := ?_) #[true, true, true, true, true, false, false, false, false, false, false, false, false, false, false, false, false, false, false, false, false] rfl rfl (by kernel_rfl) (fun _ _ _ h => h) (Or.inl ⟨by rfl, ?_⟩) ?_ ?_
      rotate_left
      · intro w'
        go_simp
        with_reducible rfl
      rotate_left
      · simp only [Act.put, List.setIfInBounds_toArray, List.set_cons_zero, List.set_cons_succ, i64_w, i32_w]
        rfl
      refine pure_ (i := 5) (N := some 74) (v := ?_) (a' := ?_) #[true, true, true, true, true, true, false, false, false, false, false, false, false, false, false, false, false, false, false, false, false] rfl rfl (by kernel_rfl) (fun _ _ _ h => h) (Or.inl ⟨by rfl, ?_⟩) ?_ ?_
      rotate_left
      · intro w'
        go_simp
        with_reducible rfl
      rotate_left
      · simp only [Act.put, List.setIfInBounds_toArray, List.set_cons_zero, List.set_cons_succ, i64_w, i32_w]
        rfl
      refine pure_ (i := 7) (N := some 76) (v := ?_) (a' := ?_) #[true, true, true, true, true, true, false, true, false, false, false, false, false, false, false, false, false, false, false, false, false] rfl rfl (by kernel_rfl) (fun _ _ _ h => h) (Or.inl ⟨by rfl, ?_⟩) ?_ ?_
      rotate_left
      · intro w'
        go_simp
        with_reducible rfl
      rotate_left
      · simp only [Act.put, List.setIfInBounds_toArray, List.set_cons_zero, List.set_cons_succ, i64_w, i32_w]
        rfl
      refine take_ (i := 6) (N := some 75) (v := ?_) (a' := ?_) #[true, true, true, true, true, true, true, true, false, false, false, false, false, false, false, false, false, false, false, false, false] rfl rfl (by kernel_rfl) (fun _ _ _ h => h) (Or.inl ⟨by rfl, ?_⟩) hHeld ?_ ?_
      rotate_left
      · rintro w' ⟨s0, s1⟩
        go_simp
        with_reducible rfl
      rotate_left
      · simp only [Act.put, List.setIfInBounds_toArray, List.set_cons_zero, List.set_cons_succ, i64_w, i32_w]
        rfl
      refine pure_ (i := 8) (N := some 77) (v := ?_) (a' := ?_) #[true, true, true, true, true, true, true, true, true, false, false, false, false, false, false, false, false, false, false, false, false] rfl rfl (by kernel_rfl) (fun _ _ _ h => h) (Or.inl ⟨by rfl, ?_⟩) ?_ ?_
      rotate_left
      · intro w'
        go_simp
        with_reducible rfl
      rotate_left
      · simp only [Act.put, List.setIfInBounds_toArray, List.set_cons_zero, List.set_cons_succ, i64_w, i32_w]
        rfl
      refine pure_ (i := 9) (N := some 78) (v := ?_) (a' := ?_) #[true, true, true, true, true, true, true, true, true, true, false, false, false, false, false, false, false, false, false, false, false] rfl rfl (by kernel_rfl) (fun _ _ _ h => h) (Or.inl ⟨by rfl, ?_⟩) ?_ ?_
      rotate_left
      · intro w'
        go_simp
        with_reducible rfl
      rotate_left
      · simp only [Act.put, List.setIfInBounds_toArray, List.set_cons_zero, List.set_cons_succ, i64_w, i32_w]
        rfl
      refine pure_ (i := 10) (N := some 79) (v := ?_) (a' := ?_) #[true, true, true, true, true, true, true, true, true, true, true, false, false, false, false, false, false, false, false, false, false] rfl rfl (by kernel_rfl) (fun _ _ _ h => h) (Or.inl ⟨by rfl, ?_⟩) ?_ ?_
      rotate_left
      · intro w'
        go_simp
        with_reducible rfl
      rotate_left
      · simp only [Act.put, List.setIfInBounds_toArray, List.set_cons_zero, List.set_cons_succ, i64_w, i32_w]
        rfl
      refine pure_ (i := 11) (N := some 80) (v := ?_) (a' := ?_) #[true, true, true, true, true, true, true, true, true, true, true, true, false, false, false, false, false, false, false, false, false] rfl rfl (by kernel_rfl) (fun _ _ _ h => h) (Or.inl ⟨by rfl, ?_⟩) ?_ ?_
      rotate_left
      · intro w'
        go_simp
        with_reducible rfl
      rotate_left
      · simp only [Act.put, List.setIfInBounds_toArray, List.set_cons_zero, List.set_cons_succ, i64_w, i32_w]
        rfl
      refine pure_ (i := 12) (N := some 81) (v := ?_) (a' := ?_) #[true, true, true, true, true, true, true, true, true, true, true, true, true, false, false, false, false, false, false, false, false] rfl rfl (by kernel_rfl) (fun _ _ _ h => h) (Or.inl ⟨by rfl, ?_⟩) ?_ ?_
      rotate_left
      · intro w'
        go_simp
        with_reducible rfl
      rotate_left
      · simp only [Act.put, List.setIfInBounds_toArray, List.set_cons_zero, List.set_cons_succ, i64_w, i32_w]
        rfl
      refine pure_ (i := 15) (N := some 84) (v := ?_) (a' := ?_) #[true, true, true, true, true, true, true, true, true, true, true, true, true, false, false, true, false, false, false, false, false] rfl rfl (by kernel_rfl) (fun _ _ _ h => h) (Or.inl ⟨by rfl, ?_⟩) ?_ ?_
      rotate_left
      · intro w'
        go_simp
        with_reducible rfl
      rotate_left
      · simp only [Act.put, List.setIfInBounds_toArray, List.set_cons_zero, List.set_cons_succ, i64_w, i32_w]
        rfl
      refine pure_ (i := 16) (N := some 85) (v := ?_) (a' := ?_) #[true, true, true, true, true, true, true, true, true, true, true, true, true, false, false, true, true, false, false, false, false] rfl rfl (by kernel_rfl) (fun _ _ _ h => h) (Or.inl ⟨by rfl, ?_⟩) ?_ ?_
      rotate_left
      · intro w'
        go_simp
        with_reducible rfl
      rotate_left
      · simp only [Act.put, List.setIfInBounds_toArray, List.set_cons_zero, List.set_cons_succ, i64_w, i32_w]
        rfl
      refine take_ (i := 13) (N := some 82) (v := ?_) (a' := ?_) #[true, true, true, true, true, true, true, true, true, true, true, true, true, true, false, true, true, false, false, false, false] rfl rfl (by kernel_rfl) (fun _ _ _ h => h) (Or.inl ⟨by rfl, ?_⟩) hHeld ?_ ?_
      rotate_left
      · rintro w' ⟨s0, s1⟩
        go_simp
        with_reducible rfl
      rotate_left
      · simp only [Act.put, List.setIfInBounds_toArray, List.set_cons_zero, List.set_cons_succ, i64_w, i32_w]
        rfl
      refine one_ (i := 14) (N := some 83) #[true, true, true, true, true, true, true, true, true, true, true, true, true, true, true, true, true, false, false, false, false] rfl rfl (by kernel_rfl) (by decide) (fun K hK => ?_)
      refine goes_ Tryz.func12 (by kernel_rfl) rfl #[.pointer (some ⟨B, 0, none⟩), .string y] (by rfl) rfl rfl (by simp only [List.map_toArray, List.map_cons, List.map_nil]; rfl) ?_
      with_reducible refine (chain_any B M Q n ks ps y g _ (HL.out.below (below_drew (Below.refl _ _))) HYm.out.1 HE2.out HYm.out.2 (fun e he => (HP.out.val e he).1)).mono ?_
      rintro e w5 ⟨v5, rfl, hR5, hb5⟩
      obtain ⟨A5, c5, rfl, hc5, hC5⟩ := Kd.R_reads hR5
      refine ⟨_, rfl, ?_⟩
      have HB5 := Aside0.mk (below_step (below_drew (Below.refl _ _)) hb5)
      have HC5 := Aside0.mk hC5
      clear hb5 hR5 hC5
      refine hK.out _ _ ⟨pw_cell_below HB5.out HX0.out, pw_cell_below HB5.out HX1.out⟩ (fun hHeld => ?_)
      clear hK K
      refine norm_ (a' := ?_) ?_ ?_
      rotate_left
      · show Act.put _ (some 83) _ = _
        simp only [Act.put, List.setIfInBounds_toArray, List.set_cons_zero, List.set_cons_succ, i64_w, i32_w]
        rfl
      refine one_ (i := 17) (N := some 86) #[true, true, true, true, true, true, true, true, true, true, true, true, true, true, true, true, true, true, false, false, false] rfl rfl (by kernel_rfl) (by decide) (fun K hK => ?_)
      refine goes_ Tryz.func11 (by kernel_rfl) rfl #[.slice A5 g.length c5, .slice (some ⟨b4, o4 + 1, none⟩) (f.length - 1) (c1 - 1)] (by rfl) rfl rfl (by simp [Act.eval]; omega) ?_
      with_reducible refine (texts22_at g (by have := HYm.out.2; omega) _ _ _ _ _ _ HGL.out HC5.out hc5 (Kd.C_below HT.out HB5.out) (by rw [← HGL.out]; omega) ((HG.out.below HB.out).below HB5.out)).mono ?_
      rintro e w6 ⟨rfl, hb6⟩
      refine ⟨_, rfl, ?_⟩
      have HB6 := Aside0.mk (below_step HB5.out hb6)
      clear hb6
      refine hK.out _ _ ⟨pw_cell_below HB6.out HX0.out, pw_cell_below HB6.out HX1.out⟩ (fun hHeld => ?_)
      clear hK K
      refine norm_ (a' := ?_) ?_ ?_
      rotate_left
      · show Act.put _ (some 86) _ = _
        simp only [Act.put, List.setIfInBounds_toArray, List.set_cons_zero, List.set_cons_succ, i64_w, i32_w]
        rfl
      refine pure_ (i := 18) (N := some 87) (v := ?_) (a' := ?_) #[true, true, true, true, true, true, true, true, true, true, true, true, true, true, true, true, true, true, true, false, false] rfl rfl (by kernel_rfl) (fun _ _ _ h => h) (Or.inl ⟨by rfl, ?_⟩) ?_ ?_
      rotate_left
      · intro w'
        go_simp
        with_reducible rfl
      rotate_left
      · simp only [Act.put, List.setIfInBounds_toArray, List.set_cons_zero, List.set_cons_succ, i64_w, i32_w]
        rfl
      refine pure_ (i := 19) (N := some 88) (v := ?_) (a' := ?_) #[true, true, true, true, true, true, true, true, true, true, true, true, true, true, true, true, true, true, true, true, false] rfl rfl (by kernel_rfl) (fun _ _ _ h => h) (Or.inl ⟨by rfl, ?_⟩) ?_ ?_
      rotate_left
      · intro w'
        go_simp
        with_reducible rfl
      rotate_left
      · simp only [Act.put, List.setIfInBounds_toArray, List.set_cons_zero, List.set_cons_succ, i64_w, i32_w]
        rfl
      refine pure_ (i := 20) (N := some 4) (v := ?_) (a' := ?_) #[true, true, true, true, true, true, true, true, true, true, true, true, true, true, true, true, true, true, true, true, true] rfl rfl (by kernel_rfl) (fun _ _ _ h => h) (Or.inl ⟨by rfl, ?_⟩) ?_ ?_
      rotate_left
      · intro w'
        go_simp
        with_reducible rfl
      rotate_left
      · simp only [Act.put, List.setIfInBounds_toArray, List.set_cons_zero, List.set_cons_succ, i64_w, i32_w]
        rfl
      refine done_ (by kernel_rfl) ?_
      go_wp2_with fail
      go_ret
      exact ⟨rfl, below_step HB.out HB6.out⟩
    go_wp2_with fail
    go_loopw [10] (fun i wr => ∃ (p : Nat), p ≤ j ∧ i = .int .i64 p ∧ Aside0 (Below w4.heap.size w4 wr)) (fun i _ => j - (intOf i).toNat)
    case atStart => exact ⟨0, Nat.zero_le _, rfl, ⟨HBr.out⟩⟩
    case round =>
      obtain ⟨p, hp, rfl, HBq⟩ := hrel
      by_cases hlt2 : p < j
      case neg =>
        obtain rfl : j = p := by omega
        go_wp2_with fail
        exact ⟨⟨j + 1, by omega, by simp, ⟨HBq.out⟩⟩, by show f.length - (j + 1 : Int).toNat < f.length - (j : Int).toNat; omega⟩
      have hx := pw_cell_below HBq.out (HCs.out j hlt)
      have hy := pw_cell_below HBq.out (HCs.out p (by omega))
      have hxy : f.getD j ByteArray.empty ≠ f.getD p ByteArray.empty := by
        rw [List.getD_eq_getElem?_getD, List.getD_eq_getElem?_getD, List.getElem?_eq_getElem hlt, List.getElem?_eq_getElem (by omega)]
        intro h
        exact List.pairwise_iff_getElem.1 HND.out p j (by omega) hlt hlt2 h.symm
      generalize f.getD j ByteArray.empty = x at hx hxy
      generalize f.getD p ByteArray.empty = y at hy hxy
      have hxy2 : (x.toList == y.toList) = false := by rw [beq_eq_false_iff_ne]; intro h; exact hxy (ByteArray.ext (Array.ext' (by rw [← Lib.toList_data, ← Lib.toList_data]; exact h)))
      go_wp2_with fail
      go_quiet (fail)
      go_wp2_with fail
      exact ⟨⟨p + 1, by omega, by simp, ⟨pw_below_drewN HBq.out _⟩⟩, by show j - (p + 1 : Int).toNat < j - (p : Int).toNat; omega⟩
end Go.Proofs.YthefdpioaapomaaGreatDoor.Pz
