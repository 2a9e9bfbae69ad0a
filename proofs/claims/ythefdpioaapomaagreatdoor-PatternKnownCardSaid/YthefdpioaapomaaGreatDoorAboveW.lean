/- (*pattern.Words).above, walked by hand: a parent's row. -/
import Derived.Test.YthefdpioaapomaaGreatDoorChainW
import Derived.Test.YthefdpioaapomaaGreatDoorTextW
namespace Go.Proofs.YthefdpioaapomaaGreatDoor.Ext
set_option linter.unusedVariables false
set_option linter.unusedSimpArgs false
open Go.RowKit Go.Proofs.YthefdpioaapomaaGreatDoorW.PrintWords Go.Proofs.YthefdpioaapomaaGreatDoorW.PrintLast Go.Proofs.YthefdpioaapomaaGreatDoorW.PrintMore Go.Maps Go.WideMaps Go.Proofs.YthefdpioaapomaaGreatDoor.PA

/-- A parent's row: full is the chain of the second language. -/
def aboveW (ps : List (ByteArray × ByteArray)) (full : List ByteArray) : List ByteArray → Int × List (ByteArray × ByteArray)
  | [a, b] => if langK a = true ∧ langK b = true then
      (if (getS ps a).isSome = true then (10, ps) else if Lib.containsS full a = true then (7, ps) else (0, (a, b) :: ps))
    else (2, ps)
  | _ => (2, ps)
theorem aboveW_len {ps : List (ByteArray × ByteArray)} {full l : List ByteArray} (h : l.length ≠ 2) : aboveW ps full l = (2, ps) := by
  match l, h with
  | [], _ => rfl
  | [_], _ => rfl
  | [_, _], h => exact absurd rfl h
  | _ :: _ :: _ :: _, _ => rfl
theorem aboveW_off {ps : List (ByteArray × ByteArray)} {full : List ByteArray} {a b : ByteArray} (h : ¬ (langK a = true ∧ langK b = true)) : aboveW ps full [a, b] = (2, ps) := by
  rw [aboveW, if_neg h]
theorem stay {w w' : World} {B M Q n : Nat} {ks : List (K6 × ByteArray)} {ps : List (ByteArray × ByteArray)} (hL : WordsAt w B M Q n ks ps) (hb : Below w.heap.size w w') (row : Option Nat) : WordsAt w' B M Q (n + 1) ks ps ∧ w.grownBy w' row := ⟨(hL.below hb).mono (Nat.le_succ _), growT_of_below hb⟩
set_option maxHeartbeats 8000000 in
set_option maxRecDepth 100000 in
theorem above_any (B M Q n : Nat) (ks : List (K6 × ByteArray)) (ps : List (ByteArray × ByteArray)) (A : Option Addr) (c : Nat) (l full : List ByteArray) (w : World) (hG : Glob w) (hL : WordsAt w B M Q n ks ps) (hC : Kd.C Kd.string w A l.length l) (hc : l.length ≤ c) (hok : ∀ s ∈ l, TextOk s)
    (hE : Ends ps full (l.getD 1 eS)) (hf : full.length ≤ 100000) (hp : ∀ e ∈ ps, e.2.size ≤ maxLen ∧ e.2 ≠ eS) (hn : n < maxLen) :
    Calls Tryz.prog 25 #[.pointer (some ⟨B, 0, none⟩), .slice A l.length c] w fun e w' => e = .returned (.int .i64 (aboveW ps full l).1) ∧ WordsAt w' B M Q (n + 1) ks (aboveW ps full l).2 ∧ w.grownBy w' (some Q) := by
  obtain ⟨r, hr⟩ : ∃ r, aboveW ps full l = r := ⟨_, rfl⟩
  rw [hr]
  obtain ⟨er, ps2⟩ := r
  have hm : l.length ≤ 9223372036854775807 := hC.2.1
  have HR := Aside0.mk hr
  have HG := Aside0.mk hG
  have HL := Aside0.mk hL
  have HC := Aside0.mk hC
  have HK := Aside0.mk hok
  have HE0 := Aside0.mk hE
  have HP := Aside0.mk hp
  have HN := Aside0.mk hn
  obtain ⟨nl, hnl⟩ : ∃ m, m = l.length := ⟨_, rfl⟩
  rw [← hnl] at hm hc ⊢
  have HNl := Aside0.mk hnl
  clear hr hG hL hC hok hE hp hn hnl
  dsimp only
  go_enter Tryz.func25, Tryz.ntmps25
  by_cases h2 : nl = 2
  case neg =>
    have f1 : ((nl : Int) == 2) = false := by simp; omega
    have f2 : ((nl : Int) != 2) = true := by simp; omega
    go_wp2_with fail
    go_ret
    have hr := HR.out
    rw [aboveW_len (by rw [← HNl.out]; exact h2)] at hr
    obtain ⟨rfl, rfl⟩ := Prod.mk.inj hr
    exact ⟨rfl, stay HL.out (Below.refl _ _) _⟩
  subst h2
  obtain ⟨a, b, rfl⟩ : ∃ a b, l = [a, b] := by
    have h := HNl.out
    match l, h with
    | [a, b], _ => exact ⟨a, b, rfl⟩
  have HE : Aside0 (Ends ps full b) := ⟨HE0.out⟩
  obtain ⟨b0, o0, rfl, hcs⟩ := C_strsD HC.out (by simp)
  have hx0 : w.cell? ⟨b0, o0, none⟩ = some (.string a) := hcs 0 (by simp)
  have hx1 : w.cell? ⟨b0, o0 + 1, none⟩ = some (.string b) := hcs 1 (by simp)
  have HX0 := Aside0.mk hx0
  have HX1 := Aside0.mk hx1
  obtain ⟨xa, hxa⟩ : ∃ x, langK a = x := ⟨_, rfl⟩
  have HXa := Aside0.mk hxa
  clear hcs hx1 hxa
  go_wp2_with fail
  refine (langK_any a xa _ HG.out (HK.out a (by simp)) HXa.out).mono ?_
  rintro e w1 ⟨rfl, hb⟩
  have HB1 := Aside0.mk hb
  clear hb hx0
  cases xa with
  | false =>
    go_wp2_with fail
    go_ret
    have hr := HR.out
    rw [aboveW_off (by rw [HXa.out]; simp)] at hr
    obtain ⟨rfl, rfl⟩ := Prod.mk.inj hr
    exact ⟨rfl, stay HL.out HB1.out _⟩
  | true =>
    have hx1 := pw_cell_below HB1.out HX1.out
    obtain ⟨xb, hxb⟩ : ∃ x, langK b = x := ⟨_, rfl⟩
    have HXb := Aside0.mk hxb
    clear hxb
    go_wp2_with fail
    refine (langK_any b xb _ (HG.out.below HB1.out) (HK.out b (by simp)) HXb.out).mono ?_
    rintro e w2 ⟨rfl, hb⟩
    have HB2 := Aside0.mk (below_step HB1.out hb)
    clear hb hx1
    cases xb with
    | false =>
      go_wp2_with fail
      go_ret
      have hr := HR.out
      rw [aboveW_off (by rw [HXb.out]; simp)] at hr
      obtain ⟨rfl, rfl⟩ := Prod.mk.inj hr
      exact ⟨rfl, stay HL.out HB2.out _⟩
    | true =>
      have hr := HR.out
      rw [aboveW, if_pos ⟨HXa.out, HXb.out⟩] at hr
      obtain ⟨g, hg⟩ : ∃ g, getS ps a = g := ⟨_, rfl⟩
      rw [hg] at hr
      have HR2 := Aside0.mk hr
      have asz : a.size ≤ maxLen := by have := (HK.out a (by simp)).size; unfold maxLen; omega
      have bsz : b.size ≤ maxLen := by have := (HK.out b (by simp)).size; unfold maxLen; omega
      have hx : ∀ m, (Instr.lookup 49 (.map (some Q)) (.string a) false).run Tryz.prog (w2.drewN m) = .ok (.string (g.getD ⟨#[]⟩)) (w2.drewN m) := by
        intro m
        rw [← hg]
        exact HL.out.parent1 asz (pw_below_drewN HB2.out m)
      have hne : ∀ p, g = some p → p ≠ eS := fun p h => by
        obtain ⟨e, he, rfl⟩ := getS_mem (hg.trans h)
        exact (HP.out e he).2
      have HNe := Aside0.mk hne
      have HAz := Aside0.mk asz
      have HBz := Aside0.mk bsz
      have HM := Aside0.mk (blk_cell HL.out.blk 1)
      have hmc := pw_cell_below HB2.out (blk_cell HL.out.blk 1)
      have hx0 := pw_cell_below HB2.out HX0.out
      clear hr hg hne asz bsz
      cases g with
      | some p =>
        dsimp only [Option.getD_some] at hx
        have f1 : (p.toList == ([] : List UInt8)) = false := by rw [str_iff]; exact decide_eq_false (HNe.out p rfl)
        have f2 : (p.toList != ([] : List UInt8)) = true := by unfold bne; rw [f1]; rfl
        go_wp2_with fail
        go_quiet (fail)
        go_wp2_with fail
        go_ret
        have hr := HR2.out
        rw [if_pos (by rfl)] at hr
        obtain ⟨rfl, rfl⟩ := Prod.mk.inj hr
        exact ⟨rfl, stay HL.out (pw_below_drewN HB2.out _) _⟩
      | none =>
        dsimp only [Option.getD_none] at hx
        have hr := HR2.out
        rw [if_neg (by decide)] at hr
        have HR3 := Aside0.mk hr
        clear hr
        go_wp2_with fail
        go_quiet (fail)
        have HB3 : Aside0 (Below w.heap.size w (w2.drewN nq)) := ⟨pw_below_drewN HB2.out _⟩
        generalize w2.drewN nq = w3 at HB3 ⊢
        clear hx hmc hx0
        obtain ⟨ct, hct⟩ : ∃ x, Lib.containsS full a = x := ⟨_, rfl⟩
        have hr := HR3.out
        rw [hct] at hr
        have HR4 := Aside0.mk hr
        have HCt := Aside0.mk hct
        clear hr hct
        go_wp2_with fail
        refine start_ (n := 10) (S := fun w' => w'.cell? ⟨b0, o0, none⟩ = some (.string a) ∧ w'.cell? ⟨b0, o0 + 1, none⟩ = some (.string b)) (ds := []) #[false, false, false, false, false, false, false, false, false, false] (by kernel_rfl) rfl rfl ⟨pw_cell_below (below_drew HB3.out) HX0.out, pw_cell_below (below_drew HB3.out) HX1.out⟩ (fun hHeld => ?_)
        refine pure_ (i := 0) (N := some 34) (v := ?_) (a' := ?_) #[true, false, false, false, false, false, false, false, false, false] rfl rfl (by kernel_rfl) (fun _ _ _ h => h) (Or.inl ⟨by rfl, ?_⟩) ?_ ?_
        rotate_left
        · intro w'
          go_simp
          with_reducible rfl
        rotate_left
        · simp only [Act.put, List.setIfInBounds_toArray, List.set_cons_zero, List.set_cons_succ, i64_w, i32_w]
          rfl
        refine pure_ (i := 1) (N := some 35) (v := ?_) (a' := ?_) #[true, true, false, false, false, false, false, false, false, false] rfl rfl (by kernel_rfl) (fun _ _ _ h => h) (Or.inl ⟨by rfl, ?_⟩) ?_ ?_
        rotate_left
        · intro w'
          go_simp
          with_reducible rfl
        rotate_left
        · simp only [Act.put, List.setIfInBounds_toArray, List.set_cons_zero, List.set_cons_succ, i64_w, i32_w]
          rfl
        refine pure_ (i := 2) (N := some 36) (v := ?_) (a' := ?_) #[true, true, true, false, false, false, false, false, false, false] rfl rfl (by kernel_rfl) (fun _ _ _ h => h) (Or.inl ⟨by rfl, ?_⟩) ?_ ?_
        rotate_left
        · intro w'
          go_simp
          with_reducible rfl
        rotate_left
        · simp only [Act.put, List.setIfInBounds_toArray, List.set_cons_zero, List.set_cons_succ, i64_w, i32_w]
          rfl
        refine pure_ (i := 5) (N := some 39) (v := ?_) (a' := ?_) #[true, true, true, false, false, true, false, false, false, false] rfl rfl (by kernel_rfl) (fun _ _ _ h => h) (Or.inl ⟨by rfl, ?_⟩) ?_ ?_
        rotate_left
        · intro w'
          go_simp
          with_reducible rfl
        rotate_left
        · simp only [Act.put, List.setIfInBounds_toArray, List.set_cons_zero, List.set_cons_succ, i64_w, i32_w]
          rfl
        refine pure_ (i := 6) (N := some 40) (v := ?_) (a' := ?_) #[true, true, true, false, false, true, true, false, false, false] rfl rfl (by kernel_rfl) (fun _ _ _ h => h) (Or.inl ⟨by rfl, ?_⟩) ?_ ?_
        rotate_left
        · intro w'
          go_simp
          with_reducible rfl
        rotate_left
        · simp only [Act.put, List.setIfInBounds_toArray, List.set_cons_zero, List.set_cons_succ, i64_w, i32_w]
          rfl
        refine take_ (i := 3) (N := some 37) (v := ?_) (a' := ?_) #[true, true, true, true, false, true, true, false, false, false] rfl rfl (by kernel_rfl) (fun _ _ _ h => h) (Or.inl ⟨by rfl, ?_⟩) hHeld ?_ ?_
        rotate_left
        · rintro w' ⟨s0, s1⟩
          go_simp
          with_reducible rfl
        rotate_left
        · simp only [Act.put, List.setIfInBounds_toArray, List.set_cons_zero, List.set_cons_succ, i64_w, i32_w]
          rfl
        refine take_ (i := 7) (N := some 41) (v := ?_) (a' := ?_) #[true, true, true, true, false, true, true, true, false, false] rfl rfl (by kernel_rfl) (fun _ _ _ h => h) (Or.inl ⟨by rfl, ?_⟩) hHeld ?_ ?_
        rotate_left
        · rintro w' ⟨s0, s1⟩
          go_simp
          with_reducible rfl
        rotate_left
        · simp only [Act.put, List.setIfInBounds_toArray, List.set_cons_zero, List.set_cons_succ, i64_w, i32_w]
          rfl
        refine one_ (i := 4) (N := some 38) #[true, true, true, true, true, true, true, true, false, false] rfl rfl (by kernel_rfl) (by decide) (fun K hK => ?_)
        refine goes_ Tryz.func12 (by kernel_rfl) rfl #[.pointer (some ⟨B, 0, none⟩), .string b] (by rfl) rfl rfl (by simp only [List.map_toArray, List.map_cons, List.map_nil]; rfl) ?_
        with_reducible refine (chain_any B M Q n ks ps b full _ (HL.out.below (below_drew HB3.out)) HBz.out HE.out hf (fun e he => (HP.out e he).1)).mono ?_
        rintro e w4 ⟨v4, rfl, hR4, hb4⟩
        obtain ⟨A4, c4, rfl, hc4, hC4⟩ := Kd.R_reads hR4
        refine ⟨_, rfl, ?_⟩
        have HB4 := Aside0.mk (below_step (below_drew HB3.out) hb4)
        have HC4 := Aside0.mk hC4
        clear hb4 hR4 hC4
        refine hK.out _ _ ⟨pw_cell_below HB4.out HX0.out, pw_cell_below HB4.out HX1.out⟩ (fun hHeld => ?_)
        clear hK K
        refine norm_ (a' := ?_) ?_ ?_
        rotate_left
        · show Act.put _ (some 38) _ = _
          simp only [Act.put, List.setIfInBounds_toArray, List.set_cons_zero, List.set_cons_succ, i64_w, i32_w]
          rfl
        refine one_ (i := 8) (N := some 42) #[true, true, true, true, true, true, true, true, true, false] rfl rfl (by kernel_rfl) (by decide) (fun K hK => ?_)
        refine goes_ Tryz.func35 (by kernel_rfl) rfl #[.slice A4 full.length c4, .string a] (by rfl) rfl rfl (by simp only [List.map_toArray, List.map_cons, List.map_nil]; rfl) ?_
        with_reducible refine (slices_Contains.calls A4 c4 full a ct _ HC4.out hc4 (by unfold slices_Contains.f; rw [HCt.out]) (HG.out.below HB4.out)).mono ?_
        rintro e w5 ⟨rfl, ⟨nd, hw5⟩⟩
        refine ⟨_, rfl, ?_⟩
        have HB5 : Aside0 (Below w.heap.size w w5) := ⟨by first | (rw [← hw5]; exact pw_below_drewN HB4.out nd) | (rw [hw5]; exact pw_below_drewN HB4.out nd)⟩
        clear hw5
        refine hK.out _ _ ⟨pw_cell_below HB5.out HX0.out, pw_cell_below HB5.out HX1.out⟩ (fun hHeld => ?_)
        clear hK K
        refine norm_ (a' := ?_) ?_ ?_
        rotate_left
        · show Act.put _ (some 42) _ = _
          simp only [Act.put, List.setIfInBounds_toArray, List.set_cons_zero, List.set_cons_succ, i64_w, i32_w]
          rfl
        refine pure_ (i := 9) (N := some 33) (v := ?_) (a' := ?_) #[true, true, true, true, true, true, true, true, true, true] rfl rfl (by kernel_rfl) (fun _ _ _ h => h) (Or.inl ⟨by rfl, ?_⟩) ?_ ?_
        rotate_left
        · intro w'
          go_simp
          with_reducible rfl
        rotate_left
        · simp only [Act.put, List.setIfInBounds_toArray, List.set_cons_zero, List.set_cons_succ, i64_w, i32_w]
          rfl
        refine done_ (by kernel_rfl) ?_
        cases ct with
        | true =>
          go_wp2_with fail
          go_ret
          have hr := HR4.out
          rw [if_pos (by trivial)] at hr
          obtain ⟨rfl, rfl⟩ := Prod.mk.inj hr
          exact ⟨rfl, stay HL.out HB5.out _⟩
        | false =>
          have hr := HR4.out
          rw [if_neg (by simp)] at hr
          have HR5 := Aside0.mk hr
          clear hr
          obtain ⟨w6, hrun6, hL6, hg6⟩ := (HL.out.below (below_drew HB5.out)).putS HN.out HAz.out b
          have HR6 := Aside0.mk hrun6
          have HL6 := Aside0.mk hL6
          have HG6 := Aside0.mk (growT_trans (below_drew HB5.out) hg6)
          clear hrun6 hL6 hg6
          go_wp2_with fail
          refine start_ (n := 11) (S := fun w' => w'.cell? ⟨B, 1, none⟩ = some (.map (some Q)) ∧ w'.cell? ⟨b0, o0, none⟩ = some (.string a) ∧ w'.cell? ⟨b0, o0 + 1, none⟩ = some (.string b)) (ds := [10]) #[false, false, false, false, false, false, false, false, false, false, false] (by kernel_rfl) rfl rfl ⟨pw_cell_below (below_drew HB5.out) HM.out, pw_cell_below (below_drew HB5.out) HX0.out, pw_cell_below (below_drew HB5.out) HX1.out⟩ (fun hHeld => ?_)
          refine pure_ (i := 0) (N := some 43) (v := ?_) (a' := ?_) #[true, false, false, false, false, false, false, false, false, false, false] rfl rfl (by kernel_rfl) (fun _ _ _ h => h) (Or.inl ⟨by rfl, ?_⟩) ?_ ?_
          rotate_left
          · intro w'
            go_simp
            with_reducible rfl
          rotate_left
          · simp only [Act.put, List.setIfInBounds_toArray, List.set_cons_zero, List.set_cons_succ, i64_w, i32_w]
            rfl
          refine pure_ (i := 1) (N := some 44) (v := ?_) (a' := ?_) #[true, true, false, false, false, false, false, false, false, false, false] rfl rfl (by kernel_rfl) (fun _ _ _ h => h) (Or.inl ⟨by rfl, ?_⟩) ?_ ?_
          rotate_left
          · intro w'
            go_simp
            with_reducible rfl
          rotate_left
          · simp only [Act.put, List.setIfInBounds_toArray, List.set_cons_zero, List.set_cons_succ, i64_w, i32_w]
            rfl
          refine pure_ (i := 2) (N := some 45) (v := ?_) (a' := ?_) #[true, true, true, false, false, false, false, false, false, false, false] rfl rfl (by kernel_rfl) (fun _ _ _ h => h) (Or.inl ⟨by rfl, ?_⟩) ?_ ?_
          rotate_left
          · intro w'
            go_simp
            with_reducible rfl
          rotate_left
          · simp only [Act.put, List.setIfInBounds_toArray, List.set_cons_zero, List.set_cons_succ, i64_w, i32_w]
            rfl
          refine pure_ (i := 4) (N := some 47) (v := ?_) (a' := ?_) #[true, true, true, false, true, false, false, false, false, false, false] rfl rfl (by kernel_rfl) (fun _ _ _ h => h) (Or.inl ⟨by rfl, ?_⟩) ?_ ?_
          rotate_left
          · intro w'
            go_simp
            with_reducible rfl
          rotate_left
          · simp only [Act.put, List.setIfInBounds_toArray, List.set_cons_zero, List.set_cons_succ, i64_w, i32_w]
            rfl
          refine pure_ (i := 5) (N := some 48) (v := ?_) (a' := ?_) #[true, true, true, false, true, true, false, false, false, false, false] rfl rfl (by kernel_rfl) (fun _ _ _ h => h) (Or.inl ⟨by rfl, ?_⟩) ?_ ?_
          rotate_left
          · intro w'
            go_simp
            with_reducible rfl
          rotate_left
          · simp only [Act.put, List.setIfInBounds_toArray, List.set_cons_zero, List.set_cons_succ, i64_w, i32_w]
            rfl
          refine pure_ (i := 7) (N := some 50) (v := ?_) (a' := ?_) #[true, true, true, false, true, true, false, true, false, false, false] rfl rfl (by kernel_rfl) (fun _ _ _ h => h) (Or.inl ⟨by rfl, ?_⟩) ?_ ?_
          rotate_left
          · intro w'
            go_simp
            with_reducible rfl
          rotate_left
          · simp only [Act.put, List.setIfInBounds_toArray, List.set_cons_zero, List.set_cons_succ, i64_w, i32_w]
            rfl
          refine pure_ (i := 8) (N := some 51) (v := ?_) (a' := ?_) #[true, true, true, false, true, true, false, true, true, false, false] rfl rfl (by kernel_rfl) (fun _ _ _ h => h) (Or.inl ⟨by rfl, ?_⟩) ?_ ?_
          rotate_left
          · intro w'
            go_simp
            with_reducible rfl
          rotate_left
          · simp only [Act.put, List.setIfInBounds_toArray, List.set_cons_zero, List.set_cons_succ, i64_w, i32_w]
            rfl
          refine take_ (i := 3) (N := some 46) (v := ?_) (a' := ?_) #[true, true, true, true, true, true, false, true, true, false, false] rfl rfl (by kernel_rfl) (fun _ _ _ h => h) (Or.inl ⟨by rfl, ?_⟩) hHeld ?_ ?_
          rotate_left
          · rintro w' ⟨s0, s1, s2⟩
            go_simp
            with_reducible rfl
          rotate_left
          · simp only [Act.put, List.setIfInBounds_toArray, List.set_cons_zero, List.set_cons_succ, i64_w, i32_w]
            rfl
          refine take_ (i := 6) (N := some 49) (v := ?_) (a' := ?_) #[true, true, true, true, true, true, true, true, true, false, false] rfl rfl (by kernel_rfl) (fun _ _ _ h => h) (Or.inl ⟨by rfl, ?_⟩) hHeld ?_ ?_
          rotate_left
          · rintro w' ⟨s0, s1, s2⟩
            go_simp
            with_reducible rfl
          rotate_left
          · simp only [Act.put, List.setIfInBounds_toArray, List.set_cons_zero, List.set_cons_succ, i64_w, i32_w]
            rfl
          refine take_ (i := 9) (N := some 52) (v := ?_) (a' := ?_) #[true, true, true, true, true, true, true, true, true, true, false] rfl rfl (by kernel_rfl) (fun _ _ _ h => h) (Or.inl ⟨by rfl, ?_⟩) hHeld ?_ ?_
          rotate_left
          · rintro w' ⟨s0, s1, s2⟩
            go_simp
            with_reducible rfl
          rotate_left
          · simp only [Act.put, List.setIfInBounds_toArray, List.set_cons_zero, List.set_cons_succ, i64_w, i32_w]
            rfl
          refine last_ (i := 10) (N := none) #[true, true, true, true, true, true, true, true, true, true, true] rfl rfl (by kernel_rfl) (by decide) (fun K hK => ?_)
          refine skip_ (w1 := w6) (by rfl) rfl ?_ ?_
          · have hr := HR6.out
            go_simp
          refine hK.out _ _ ?_
          clear hK K
          refine done_ (by kernel_rfl) ?_
          go_wp2_with fail
          go_ret
          obtain ⟨rfl, rfl⟩ := Prod.mk.inj HR5.out
          exact ⟨rfl, HL6.out, HG6.out⟩
end Go.Proofs.YthefdpioaapomaaGreatDoor.Ext
