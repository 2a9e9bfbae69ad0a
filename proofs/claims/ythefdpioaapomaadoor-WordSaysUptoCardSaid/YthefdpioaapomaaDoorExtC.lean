/- The document's own 'Cut', walked: a row of words, cut at one word. Its one statement that draws its order is walked in every order. -/
import Derived.Test.YthefdpioaapomaaDoorExtA
import Derived.Test.YthefdpioaapomaaDoorPA0
import Derived.WalkSpells
import Derived.WalkLawsBesides
namespace Go.Proofs.YthefdpioaapomaaDoor.Ext
set_option linter.unusedVariables false
set_option linter.unusedSimpArgs false
open Go.RowKit Go.Proofs.YthefdpioaapomaaDoorW.PrintWords Go.Proofs.YthefdpioaapomaaDoorW.PrintLast Go.Proofs.YthefdpioaapomaaDoorW.PrintMore Go.Proofs.YthefdpioaapomaaDoor.PA

def cutStep (at_ : ByteArray) (r : List (List ByteArray)) (x : ByteArray) : Option (List (List ByteArray)) :=
  if x.toList = at_.toList then (if r.length < 5864062014805 then some (r ++ [[]]) else none)
  else (if 0 < r.length then (if (r.getD (r.length - 1) []).length < 8796093022208 then some (r.set (r.length - 1) (r.getD (r.length - 1) [] ++ [x])) else none) else none)
def cutLoop (at_ : ByteArray) : List ByteArray → List (List ByteArray) → Option (List (List ByteArray))
  | [], r => some r
  | x :: l, r => (cutStep at_ r x).bind fun r' => cutLoop at_ l r'
def cubitref6_Cut.f (l0 : List ByteArray) (a1 : ByteArray) : Option (List (List ByteArray)) := cutLoop a1 l0 [[]]
theorem below_of_none {w0 W w1 : World} {b : Nat} (hg : W.grownBy w1 none) (hb : Below b w0 w1) (h0 : Below b w0 W) : Below W.heap.size W w1 :=
  ⟨hg.os, hg.tape, hg.output, hg.size, fun i hi => hg.block i hi (by simp)⟩
set_option maxHeartbeats 8000000 in
set_option maxRecDepth 100000 in
theorem cubitref6_Cut.calls (A0 : Option Addr) (c0 : Nat) (l0 : List ByteArray) (a1 : ByteArray) (r : List (List ByteArray)) (w : World) (hr0 : Kd.C Kd.string w A0 l0.length l0) (hc0 : l0.length ≤ c0) (h : cubitref6_Cut.f l0 a1 = some r) (hG : Glob w) :
    Calls Tryd.prog 36 #[.slice A0 l0.length c0, .string a1] w fun e w' => ∃ v0_ : Value, e = .returned v0_ ∧ Kd.S (Kd.slice 9 Kd.string) 29 w' w.heap.size (fun _ => True) v0_ r ∧ Below w.heap.size w w' := by
  have hm : l0.length ≤ 9223372036854775807 := hr0.2.1
  have HR := Aside0.mk hr0
  have HE := Aside0.mk (show cutLoop a1 (l0.drop 0) [[]] = some r from h)
  clear hr0 hG h hc0
  obtain ⟨y0, hy0⟩ : ∃ y_ : List (List ByteArray), y_ = [[]] := ⟨_, rfl⟩
  have Ny := Aside0.mk hy0
  rw [← hy0] at HE
  clear hy0
  have HB := Aside0.mk (Below.refl w.heap.size w)
  go_enter Tryd.func36, Tryd.ntmps36
  go_wp2_with (first | ((with_reducible refine gate_dst (N := 7) rfl ?_); refine Kd.S_lit (Kd.slice 9 Kd.string) _ 29 ?hg (N := 7) ?hd (xs := ([[]] : List (List ByteArray))) (inner := [.slice none 0 0]) (ok := fun _ => True) (okp := fun _ => True) ?hr ?hp (fun _ hk => hk) trivial (Below.refl _ _) (Nat.le_refl _) (by simp) ?_; (case hd => rfl); (case hg => rfl); (case hr => first | (go_simp; done) | (go_simp; rfl)); (case hp => exact (Reps.one (show Kd.M (Kd.slice 9 Kd.string) _ _ _ [] [.slice none 0 0] from ⟨_, rfl, Kd.R_nil _ _ _ _ _⟩) (Reps.none _ _))); intro v7 w3 ho4 hb hg_ hnew_; clear hg_ hnew_; rw [← Ny.out] at ho4; have n0_ := Aside0.mk ho4; have n1_ := Aside0.mk hb; clear HB; have HO := n0_; have HB := n1_; clear n0_ n1_; clear hb ho4))
  go_loopw [5, 6] (fun v i w' => ∃ (k : Nat) (rs : List (List ByteArray)), k ≤ l0.length ∧ i = .int .i64 k ∧ Aside0 (cutLoop a1 (l0.drop k) rs = some r) ∧ Aside0 (Kd.S (Kd.slice 9 Kd.string) 29 w' w.heap.size (fun _ => True) v rs) ∧ Aside0 (Below w.heap.size w w')) (fun _ i _ => l0.length - (intOf i).toNat)
  case atStart => exact ⟨0, y0, Nat.zero_le _, rfl, HE, HO, HB⟩
  case round =>
    clear HE HO HB
    obtain ⟨k, rs, hk, rfl, HS, HO, HB⟩ := hrel
    by_cases hlt : k < l0.length
    · have hS := HS.out
      rw [List.drop_eq_getElem_cons hlt] at hS
      obtain ⟨ad, rfl, hx0⟩ := Kd.at_string HR.out (k : Int) (by omega) (by omega)
      have hrd : rdOf ByteArray.empty l0 (k : Int) = l0[k] := by simp [rdOf, hlt]
      rw [hrd, Int.toNat_natCast] at hx0
      clear hrd
      generalize l0[k] = x at hS hx0
      replace hx0 := pw_cell_below HB.out hx0
      obtain ⟨rs', hst, hS⟩ := Option.bind_eq_some_iff.1 hS
      have hS' := Aside0.mk hS
      clear hS HS
      unfold cutStep at hst
      by_cases he : x.toList = a1.toList
      · rw [if_pos he] at hst
        by_cases hl : rs.length < 5864062014805
        case neg => rw [if_neg hl] at hst; cases hst
        rw [if_pos hl] at hst
        have Nr := Aside0.mk (Option.some.inj hst)
        have LM := Aside0.mk hl
        have hb0 : (x.toList == a1.toList) = true := beq_iff_eq.mpr he
        clear hst hl he
        go_wp2_with (first | ((with_reducible refine gate_builtin (b := .append) (xs := #[.tmp 20, .tmp 21]) rfl ?_); at_builtin; refine Kd.S_append (Kd.slice 9 Kd.string) (w0 := w) w.heap.size rfl (.tmp 20) (.tmp 21) 43 29 (.slice none 0 0) 24 rfl Tryd.underlying43 info29 rfl (by decide) (by omega) _ rs [] [.slice none 0 0] (fun _ => True) (fun _ => False) rfl rfl ?aP (fun _ hk => hk.elim) ?aF ?aO ?aB ?aS ?aL ?_; (case aP => exact (show Kd.M (Kd.slice 9 Kd.string) _ _ _ [] [.slice none 0 0] from ⟨_, rfl, Kd.R_nil _ _ _ _ _⟩)); (case aB => exact HB.out); (case aF => exact (fun _ _ => trivial)); (case aO => exact Kd.S_mono HO.out (fun k_ hk => ⟨trivial, fun e_ => e_⟩)); (case aS => exact below_size HB.out); (case aL => have := LM.out; omega); intro v22 w10 ho hb hg hat; rw [Nr.out] at ho; have n0_ := Aside0.mk hb; have n1_ := Aside0.mk ho; clear HB HO; have HB := n0_; have HO := n1_; clear n0_ n1_; clear ho hb hg hat))
        go_roundw
        case rel => exact ⟨k + 1, rs', by omega, by go_num, hS', HO, HB⟩
        case measure => simp [intOf]; omega
      · rw [if_neg he] at hst
        by_cases hp : 0 < rs.length
        case neg => rw [if_neg hp] at hst; cases hst
        rw [if_pos hp] at hst
        have hrl : rd_L2 rs ((rs.length - 1 : Nat) : Int) = rs.getD (rs.length - 1) [] := by unfold rd_L2; rw [Int.toNat_natCast]
        rw [← hrl] at hst
        clear hrl
        obtain ⟨jl, hjl⟩ : ∃ j_ : Nat, j_ = rs.length - 1 := ⟨_, rfl⟩
        rw [← hjl] at hst
        have hj1 : jl + 1 = rs.length := by omega
        clear hjl
        by_cases hl : (rd_L2 rs (jl : Int)).length < 8796093022208
        case neg => rw [if_neg hl] at hst; cases hst
        rw [if_pos hl] at hst
        have Nr := Aside0.mk (Option.some.inj hst)
        have hb0 : (x.toList == a1.toList) = false := beq_eq_false_iff_ne.mpr he
        have LM := Aside0.mk hl
        clear hst hl he
        obtain ⟨Ao, co, eo⟩ := Kd.S_slice HO.out
        subst eo
        have hrs : rs.length ≤ 9223372036854775807 := (Kd.S_reads' HO.out).2.2.2.1
        obtain ⟨gr, cap, eo, gb, gl, -⟩ := Kd.S_form HO.out hp
        (first | cases eo | (injection eo with ea_ en_ ec_; (first | subst ea_ | (injection ea_ with ea_; subst ea_)); subst ec_; clear en_))
        have GB := Aside0.mk gb
        clear gb gl
        have hp0 : (0 : Int) ≤ (jl : Int) := by omega
        have hp1 : (jl : Int) < (rs.length : Int) := by omega
        obtain ⟨oki, cs, hcl, hM, hcc, _, _, hH⟩ := Kd.S_elem HO.out [] (jl : Int) hp0 hp1
        obtain ⟨ve, rfl, ge⟩ := hM
        have hcell := hcc 0 _ rfl
        rw [show (Kd.slice 9 Kd.string).sz = 1 from rfl, Nat.mul_one, Nat.add_zero, Int.toNat_natCast] at hcell
        obtain ⟨A1, c1, e1, l1, hC1⟩ := Kd.R_reads (show Kd.R Kd.string 9 wr w.heap.size oki ve (rd_L2 rs (jl : Int)) from ge)
        subst e1
        have HC1 := Aside0.mk hC1
        have HX1 := Aside0.mk hcell
        have HX2 := Aside0.mk hx0
        have HH := Aside0.mk (Kd.H_widen hH)
        clear hcc hcl ge hC1 hcell hH l1
        generalize rd_L2 rs (jl : Int) = cur at HC1 HX1 HH Nr LM
        have hw1 : IntKind.i64.wrap ((rs.length : Int) - 1) = (jl : Int) := by rw [IntWalk.i64_in _ (by omega)]; omega
        have HW : Aside0 (Below wr.heap.size wr wr.drew) := ⟨below_drew (Below.refl _ _)⟩
        go_wp2_with fail
        refine start_ (n := 20) (S := fun w' => w'.cell? ⟨gr, jl, none⟩ = some (.slice A1 cur.length c1) ∧ w'.cell? (ad.add k) = some (.string x)) (ds := [19]) #[false, false, false, false, false, false, false, false, false, false, false, false, false, false, false, false, false, false, false, false] (by kernel_rfl) rfl rfl ⟨pw_cell_below (below_drew (Below.refl _ _)) HX1.out, pw_cell_below (below_drew (Below.refl _ _)) HX2.out⟩ (fun hHeld => ?_)
        refine pure_ (i := 0) (N := some 23) (v := ?_) (a' := ?_) #[true, false, false, false, false, false, false, false, false, false, false, false, false, false, false, false, false, false, false, false] rfl rfl (by kernel_rfl) (fun _ _ _ h => h) (Or.inl ⟨by rfl, ?_⟩) ?_ ?_
        rotate_left
        · intro w'
          go_simp
          with_reducible rfl
        rotate_left
        · simp only [Act.put, List.setIfInBounds_toArray, List.set_cons_zero, List.set_cons_succ, i64_w, i32_w]
          rfl
        refine pure_ (i := 1) (N := some 24) (v := ?_) (a' := ?_) #[true, true, false, false, false, false, false, false, false, false, false, false, false, false, false, false, false, false, false, false] rfl rfl (by kernel_rfl) (fun _ _ _ h => h) (Or.inl ⟨by rfl, ?_⟩) ?_ ?_
        rotate_left
        · intro w'
          go_simp
          with_reducible rfl
        rotate_left
        · simp only [Act.put, List.setIfInBounds_toArray, List.set_cons_zero, List.set_cons_succ, i64_w, i32_w]
          rfl
        refine pure_ (i := 2) (N := some 25) (v := ?_) (a' := ?_) #[true, true, true, false, false, false, false, false, false, false, false, false, false, false, false, false, false, false, false, false] rfl rfl (by kernel_rfl) (fun _ _ _ h => h) (Or.inl ⟨by rfl, ?_⟩) ?_ ?_
        rotate_left
        · intro w'
          go_simp
          with_reducible rfl
        rotate_left
        · simp only [Act.put, List.setIfInBounds_toArray, List.set_cons_zero, List.set_cons_succ, i64_w, i32_w]
          rfl
        refine pure_ (i := 3) (N := some 26) (v := ?_) (a' := ?_) #[true, true, true, true, false, false, false, false, false, false, false, false, false, false, false, false, false, false, false, false] rfl rfl (by kernel_rfl) (fun _ _ _ h => h) (Or.inl ⟨by rfl, ?_⟩) ?_ ?_
        rotate_left
        · intro w'
          go_simp
          with_reducible rfl
        rotate_left
        · simp only [Act.put, List.setIfInBounds_toArray, List.set_cons_zero, List.set_cons_succ, i64_w, i32_w]
          rfl
        refine pure_ (i := 5) (N := some 28) (v := ?_) (a' := ?_) #[true, true, true, true, false, true, false, false, false, false, false, false, false, false, false, false, false, false, false, false] rfl rfl (by kernel_rfl) (fun _ _ _ h => h) (Or.inl ⟨by rfl, ?_⟩) ?_ ?_
        rotate_left
        · intro w'
          go_simp
          with_reducible rfl
        rotate_left
        · simp only [Act.put, List.setIfInBounds_toArray, List.set_cons_zero, List.set_cons_succ, i64_w, i32_w]
          rfl
        refine pure_ (i := 6) (N := some 29) (v := ?_) (a' := ?_) #[true, true, true, true, false, true, true, false, false, false, false, false, false, false, false, false, false, false, false, false] rfl rfl (by kernel_rfl) (fun _ _ _ h => h) (Or.inl ⟨by rfl, ?_⟩) ?_ ?_
        rotate_left
        · intro w'
          go_simp
          with_reducible rfl
        rotate_left
        · simp only [Act.put, List.setIfInBounds_toArray, List.set_cons_zero, List.set_cons_succ, i64_w, i32_w]
          rfl
        refine pure_ (i := 7) (N := some 30) (v := ?_) (a' := ?_) #[true, true, true, true, false, true, true, true, false, false, false, false, false, false, false, false, false, false, false, false] rfl rfl (by kernel_rfl) (fun _ _ _ h => h) (Or.inl ⟨by rfl, ?_⟩) ?_ ?_
        rotate_left
        · intro w'
          go_simp
          with_reducible rfl
        rotate_left
        · simp only [Act.put, List.setIfInBounds_toArray, List.set_cons_zero, List.set_cons_succ, i64_w, i32_w]
          rfl
        refine pure_ (i := 8) (N := some 31) (v := ?_) (a' := ?_) #[true, true, true, true, false, true, true, true, true, false, false, false, false, false, false, false, false, false, false, false] rfl rfl (by kernel_rfl) (fun _ _ _ h => h) (Or.inl ⟨by rfl, ?_⟩) ?_ ?_
        rotate_left
        · intro w'
          go_simp
          with_reducible rfl
        rotate_left
        · simp only [Act.put, List.setIfInBounds_toArray, List.set_cons_zero, List.set_cons_succ, i64_w, i32_w]
          rfl
        refine pure_ (i := 9) (N := some 32) (v := ?_) (a' := ?_) #[true, true, true, true, false, true, true, true, true, true, false, false, false, false, false, false, false, false, false, false] rfl rfl (by kernel_rfl) (fun _ _ _ h => h) (Or.inl ⟨by rfl, ?_⟩) ?_ ?_
        rotate_left
        · intro w'
          go_simp
          with_reducible rfl
        rotate_left
        · simp only [Act.put, List.setIfInBounds_toArray, List.set_cons_zero, List.set_cons_succ, i64_w, i32_w]
          rfl
        refine pure_ (i := 12) (N := some 35) (v := ?_) (a' := ?_) #[true, true, true, true, false, true, true, true, true, true, false, false, true, false, false, false, false, false, false, false] rfl rfl (by kernel_rfl) (fun _ _ _ h => h) (Or.inl ⟨by rfl, ?_⟩) ?_ ?_
        rotate_left
        · intro w'
          go_simp
          with_reducible rfl
        rotate_left
        · simp only [Act.put, List.setIfInBounds_toArray, List.set_cons_zero, List.set_cons_succ, i64_w, i32_w]
          rfl
        refine pure_ (i := 13) (N := some 36) (v := ?_) (a' := ?_) #[true, true, true, true, false, true, true, true, true, true, false, false, true, true, false, false, false, false, false, false] rfl rfl (by kernel_rfl) (fun _ _ _ h => h) (Or.inl ⟨by rfl, ?_⟩) ?_ ?_
        rotate_left
        · intro w'
          go_simp
          with_reducible rfl
        rotate_left
        · simp only [Act.put, List.setIfInBounds_toArray, List.set_cons_zero, List.set_cons_succ, i64_w, i32_w]
          rfl
        refine pure_ (i := 14) (N := some 37) (v := ?_) (a' := ?_) #[true, true, true, true, false, true, true, true, true, true, false, false, true, true, true, false, false, false, false, false] rfl rfl (by kernel_rfl) (fun _ _ _ h => h) (Or.inl ⟨by rfl, ?_⟩) ?_ ?_
        rotate_left
        · intro w'
          go_simp
          with_reducible rfl
        rotate_left
        · simp only [Act.put, List.setIfInBounds_toArray, List.set_cons_zero, List.set_cons_succ, i64_w, i32_w]
          rfl
        refine take_ (i := 10) (N := some 33) (v := ?_) (a' := ?_) #[true, true, true, true, false, true, true, true, true, true, true, false, true, true, true, false, false, false, false, false] rfl rfl (by kernel_rfl) (fun _ _ _ h => h) (Or.inl ⟨by rfl, ?_⟩) hHeld ?_ ?_
        rotate_left
        · rintro w' ⟨s0, s1⟩
          go_simp
          with_reducible rfl
        rotate_left
        · simp only [Act.put, List.setIfInBounds_toArray, List.set_cons_zero, List.set_cons_succ, i64_w, i32_w]
          rfl
        refine take_ (i := 15) (N := some 38) (v := ?_) (a' := ?_) #[true, true, true, true, false, true, true, true, true, true, true, false, true, true, true, true, false, false, false, false] rfl rfl (by kernel_rfl) (fun _ _ _ h => h) (Or.inl ⟨by rfl, ?_⟩) hHeld ?_ ?_
        rotate_left
        · rintro w' ⟨s0, s1⟩
          go_simp
          with_reducible rfl
        rotate_left
        · simp only [Act.put, List.setIfInBounds_toArray, List.set_cons_zero, List.set_cons_succ, i64_w, i32_w]
          rfl
        refine join_ (σ := Value × Value × Value) 3 #[true, true, true, true, true, true, true, true, true, true, true, true, true, true, true, true, true, false, false, false] (fun s => [(27, s.1), (34, s.2.1), (39, s.2.2)]) (fun s w' => Below wr.heap.size wr w' ∧ Kd.R Kd.string 9 w' wr.heap.size (fun _ => True) s.2.1 ([] ++ cur) ∧ Kd.R Kd.string 9 w' wr.heap.size (fun _ => True) s.2.2 [x]) ?_ ?_
        rotate_left
        · intro hCont
          refine two_ (i := 4) (j := 16) (Ni := some 27) (Nj := some 39) #[true, true, true, true, true, true, true, true, true, true, true, false, true, true, true, true, false, false, false, false] #[true, true, true, true, false, true, true, true, true, true, true, false, true, true, true, true, true, false, false, false] rfl rfl rfl rfl (by kernel_rfl) (by decide) (by decide) (fun K hK => ?_) (fun K hK => ?_)
          · skip
            refine Kd.R_lit_step Kd.string (w0 := wr) wr.heap.size 9 (by rfl) (N := 27) rfl (xs := ([] : List ByteArray)) (inner := []) (ok := fun _ => True) (okp := fun _ => True) ?hr (Reps.none _ _) (fun _ hk => hk) trivial HW.out (below_size HW.out) (by simp) ?_
            (case hr => first | (go_simp; done) | (go_simp; rfl))
            intro v27 w27 ho27 hb27 hg27 hn27
            have H27 := Aside0.mk ho27
            clear HW
            have HW := Aside0.mk hb27
            clear ho27 hb27 hg27 hn27
            refine hK.out _ _ ⟨pw_cell_below HW.out HX1.out, pw_cell_below HW.out HX2.out⟩ (fun hHeld => ?_)
            clear hK K
            refine norm_ (a' := ?_) ?_ ?_
            rotate_left
            · show Act.put _ (some 27) _ = _
              simp only [Act.put, List.setIfInBounds_toArray, List.set_cons_zero, List.set_cons_succ, i64_w, i32_w]
              rfl
            refine two_ (i := 11) (j := 16) (Ni := some 34) (Nj := some 39) #[true, true, true, true, true, true, true, true, true, true, true, true, true, true, true, true, false, false, false, false] #[true, true, true, true, true, true, true, true, true, true, true, false, true, true, true, true, true, false, false, false] rfl rfl rfl rfl (by kernel_rfl) (by decide) (by decide) (fun K hK => ?_) (fun K hK => ?_)
            · skip
              refine Kd.R_append_rows_step Kd.string (w0 := wr) wr.heap.size (by rfl) (.tmp 27) (.tmp 33) 29 9 (.string ⟨#[]⟩) 16 rfl Tryd.underlying29 info9 rfl (by decide) (by omega) v27 [] cur A1 cur.length c1 (fun _ => True) (fun _ => False) rfl rfl H27.out (Kd.C_below HC1.out HW.out) (fun _ _ h_ => h_) (fun _ h_ => h_.elim) (fun _ _ => trivial) HW.out (below_size HW.out) (by have := LM.out; simp only [List.length_nil]; omega) ?_
              intro v34 w34 ho34 hb34 hg34 hn34
              have H34 := Aside0.mk ho34
              clear H27 HW
              have HW := Aside0.mk hb34
              clear ho34 hb34 hg34 hn34
              refine hK.out _ _ ⟨pw_cell_below HW.out HX1.out, pw_cell_below HW.out HX2.out⟩ (fun hHeld => ?_)
              clear hK K
              refine norm_ (a' := ?_) ?_ ?_
              rotate_left
              · show Act.put _ (some 34) _ = _
                simp only [Act.put, List.setIfInBounds_toArray, List.set_cons_zero, List.set_cons_succ, i64_w, i32_w]
                rfl
              refine one_ (i := 16) (N := some 39) #[true, true, true, true, true, true, true, true, true, true, true, true, true, true, true, true, true, false, false, false] rfl rfl (by kernel_rfl) (by decide) (fun K hK => ?_)
              refine Kd.R_lit_step Kd.string (w0 := wr) wr.heap.size 9 (by rfl) (N := 39) rfl (xs := ([x] : List ByteArray)) (inner := [.string x]) (ok := fun _ => True) (okp := fun _ => True) ?hr (Reps.one (show Kd.M Kd.string _ _ _ x [.string x] from rfl) (Reps.none _ _)) (fun _ hk => hk) trivial HW.out (below_size HW.out) (by simp) ?_
              (case hr => first | (go_simp; done) | (go_simp; rfl))
              intro v39 w39 ho39 hb39 hg39 hn39
              have H39 := Aside0.mk ho39
              have n34 := Aside0.mk (Kd.R_below H34.out (below_of_none hg39 hb39 HW.out))
              clear H34
              have H34 := n34
              clear n34
              clear HW
              have HW := Aside0.mk hb39
              clear ho39 hb39 hg39 hn39
              refine hK.out _ _ ⟨pw_cell_below HW.out HX1.out, pw_cell_below HW.out HX2.out⟩ (fun hHeld => ?_)
              clear hK K
              refine norm_ (a' := ?_) ?_ ?_
              rotate_left
              · show Act.put _ (some 39) _ = _
                simp only [Act.put, List.setIfInBounds_toArray, List.set_cons_zero, List.set_cons_succ, i64_w, i32_w]
                rfl
              exact norm_ (by simp only [putAll, Act.put, List.setIfInBounds_toArray, List.set_cons_zero, List.set_cons_succ]) (hCont (v27, v34, v39) _ ⟨HW.out, H34.out, H39.out⟩)
            · skip
              refine Kd.R_lit_step Kd.string (w0 := wr) wr.heap.size 9 (by rfl) (N := 39) rfl (xs := ([x] : List ByteArray)) (inner := [.string x]) (ok := fun _ => True) (okp := fun _ => True) ?hr (Reps.one (show Kd.M Kd.string _ _ _ x [.string x] from rfl) (Reps.none _ _)) (fun _ hk => hk) trivial HW.out (below_size HW.out) (by simp) ?_
              (case hr => first | (go_simp; done) | (go_simp; rfl))
              intro v39 w39 ho39 hb39 hg39 hn39
              have H39 := Aside0.mk ho39
              have n27 := Aside0.mk (Kd.R_below H27.out (below_of_none hg39 hb39 HW.out))
              have ne27 : ∀ k, v27.ownBlock = some k → some k ≠ v39.ownBlock := fun k hk he => by obtain ⟨b_, hb_, hl_⟩ := hn39; have := Kd.R_lt H27.out k hk; rw [← he] at hb_; injection hb_ with hb_; omega
              clear H27
              have H27 := n27
              clear n27
              clear HW
              have HW := Aside0.mk hb39
              clear ho39 hb39 hg39 hn39
              refine hK.out _ _ ⟨pw_cell_below HW.out HX1.out, pw_cell_below HW.out HX2.out⟩ (fun hHeld => ?_)
              clear hK K
              refine norm_ (a' := ?_) ?_ ?_
              rotate_left
              · show Act.put _ (some 39) _ = _
                simp only [Act.put, List.setIfInBounds_toArray, List.set_cons_zero, List.set_cons_succ, i64_w, i32_w]
                rfl
              refine one_ (i := 11) (N := some 34) #[true, true, true, true, true, true, true, true, true, true, true, true, true, true, true, true, true, false, false, false] rfl rfl (by kernel_rfl) (by decide) (fun K hK => ?_)
              refine Kd.R_append_rows_step Kd.string (w0 := wr) wr.heap.size (by rfl) (.tmp 27) (.tmp 33) 29 9 (.string ⟨#[]⟩) 16 rfl Tryd.underlying29 info9 rfl (by decide) (by omega) v27 [] cur A1 cur.length c1 (fun _ => True) (fun _ => False) rfl rfl H27.out (Kd.C_below HC1.out HW.out) (fun _ _ h_ => h_) (fun _ h_ => h_.elim) (fun _ _ => trivial) HW.out (below_size HW.out) (by have := LM.out; simp only [List.length_nil]; omega) ?_
              intro v34 w34 ho34 hb34 hg34 hn34
              have H34 := Aside0.mk ho34
              have n39 := Aside0.mk (Kd.R_grown2 H39.out rfl hg34 ne27)
              clear H39
              have H39 := n39
              clear n39
              clear H27 HW
              have HW := Aside0.mk hb34
              clear ho34 hb34 hg34 hn34
              refine hK.out _ _ ⟨pw_cell_below HW.out HX1.out, pw_cell_below HW.out HX2.out⟩ (fun hHeld => ?_)
              clear hK K
              refine norm_ (a' := ?_) ?_ ?_
              rotate_left
              · show Act.put _ (some 34) _ = _
                simp only [Act.put, List.setIfInBounds_toArray, List.set_cons_zero, List.set_cons_succ, i64_w, i32_w]
                rfl
              exact norm_ (by simp only [putAll, Act.put, List.setIfInBounds_toArray, List.set_cons_zero, List.set_cons_succ]) (hCont (v27, v34, v39) _ ⟨HW.out, H34.out, H39.out⟩)
          · skip
            refine Kd.R_lit_step Kd.string (w0 := wr) wr.heap.size 9 (by rfl) (N := 39) rfl (xs := ([x] : List ByteArray)) (inner := [.string x]) (ok := fun _ => True) (okp := fun _ => True) ?hr (Reps.one (show Kd.M Kd.string _ _ _ x [.string x] from rfl) (Reps.none _ _)) (fun _ hk => hk) trivial HW.out (below_size HW.out) (by simp) ?_
            (case hr => first | (go_simp; done) | (go_simp; rfl))
            intro v39 w39 ho39 hb39 hg39 hn39
            have H39 := Aside0.mk ho39
            clear HW
            have HW := Aside0.mk hb39
            clear ho39 hb39 hg39 hn39
            refine hK.out _ _ ⟨pw_cell_below HW.out HX1.out, pw_cell_below HW.out HX2.out⟩ (fun hHeld => ?_)
            clear hK K
            refine norm_ (a' := ?_) ?_ ?_
            rotate_left
            · show Act.put _ (some 39) _ = _
              simp only [Act.put, List.setIfInBounds_toArray, List.set_cons_zero, List.set_cons_succ, i64_w, i32_w]
              rfl
            refine one_ (i := 4) (N := some 27) #[true, true, true, true, true, true, true, true, true, true, true, false, true, true, true, true, true, false, false, false] rfl rfl (by kernel_rfl) (by decide) (fun K hK => ?_)
            refine Kd.R_lit_step Kd.string (w0 := wr) wr.heap.size 9 (by rfl) (N := 27) rfl (xs := ([] : List ByteArray)) (inner := []) (ok := fun _ => True) (okp := fun _ => True) ?hr (Reps.none _ _) (fun _ hk => hk) trivial HW.out (below_size HW.out) (by simp) ?_
            (case hr => first | (go_simp; done) | (go_simp; rfl))
            intro v27 w27 ho27 hb27 hg27 hn27
            have H27 := Aside0.mk ho27
            have n39 := Aside0.mk (Kd.R_below H39.out (below_of_none hg27 hb27 HW.out))
            have ne27 : ∀ k, v27.ownBlock = some k → some k ≠ v39.ownBlock := fun k hk he => by obtain ⟨b_, hb_, hl_⟩ := hn27; have := Kd.R_lt H39.out k he.symm; rw [hk] at hb_; injection hb_ with hb_; omega
            clear H39
            have H39 := n39
            clear n39
            clear HW
            have HW := Aside0.mk hb27
            clear ho27 hb27 hg27 hn27
            refine hK.out _ _ ⟨pw_cell_below HW.out HX1.out, pw_cell_below HW.out HX2.out⟩ (fun hHeld => ?_)
            clear hK K
            refine norm_ (a' := ?_) ?_ ?_
            rotate_left
            · show Act.put _ (some 27) _ = _
              simp only [Act.put, List.setIfInBounds_toArray, List.set_cons_zero, List.set_cons_succ, i64_w, i32_w]
              rfl
            refine one_ (i := 11) (N := some 34) #[true, true, true, true, true, true, true, true, true, true, true, true, true, true, true, true, true, false, false, false] rfl rfl (by kernel_rfl) (by decide) (fun K hK => ?_)
            refine Kd.R_append_rows_step Kd.string (w0 := wr) wr.heap.size (by rfl) (.tmp 27) (.tmp 33) 29 9 (.string ⟨#[]⟩) 16 rfl Tryd.underlying29 info9 rfl (by decide) (by omega) v27 [] cur A1 cur.length c1 (fun _ => True) (fun _ => False) rfl rfl H27.out (Kd.C_below HC1.out HW.out) (fun _ _ h_ => h_) (fun _ h_ => h_.elim) (fun _ _ => trivial) HW.out (below_size HW.out) (by have := LM.out; simp only [List.length_nil]; omega) ?_
            intro v34 w34 ho34 hb34 hg34 hn34
            have H34 := Aside0.mk ho34
            have n39 := Aside0.mk (Kd.R_grown2 H39.out rfl hg34 ne27)
            clear H39
            have H39 := n39
            clear n39
            clear H27 HW
            have HW := Aside0.mk hb34
            clear ho34 hb34 hg34 hn34
            refine hK.out _ _ ⟨pw_cell_below HW.out HX1.out, pw_cell_below HW.out HX2.out⟩ (fun hHeld => ?_)
            clear hK K
            refine norm_ (a' := ?_) ?_ ?_
            rotate_left
            · show Act.put _ (some 34) _ = _
              simp only [Act.put, List.setIfInBounds_toArray, List.set_cons_zero, List.set_cons_succ, i64_w, i32_w]
              rfl
            exact norm_ (by simp only [putAll, Act.put, List.setIfInBounds_toArray, List.set_cons_zero, List.set_cons_succ]) (hCont (v27, v34, v39) _ ⟨HW.out, H34.out, H39.out⟩)
        rintro ⟨v27, v34, v39⟩ wj ⟨hbj, hj34, hj39⟩
        clear HW
        have HW := Aside0.mk hbj
        have H34 := Aside0.mk hj34
        have H39 := Aside0.mk hj39
        clear hbj hj34 hj39
        obtain ⟨A39, c39, e39, l39, hr39⟩ := Kd.R_reads H39.out
        subst e39
        dsimp only [List.length_cons, List.length_nil]
        have hHeld : wj.cell? ⟨gr, jl, none⟩ = some (.slice A1 cur.length c1) ∧ wj.cell? (ad.add k) = some (.string x) := ⟨pw_cell_below HW.out HX1.out, pw_cell_below HW.out HX2.out⟩
        refine norm_ (a' := ?_) ?_ ?_
        rotate_left
        · simp only [putAll, Act.put, List.setIfInBounds_toArray, List.set_cons_zero, List.set_cons_succ]
          rfl
        refine one_ (i := 17) (N := some 40) #[true, true, true, true, true, true, true, true, true, true, true, true, true, true, true, true, true, true, false, false] rfl rfl (by kernel_rfl) (by decide) (fun K hK => ?_)
        refine Kd.R_append_rows_step Kd.string (w0 := wr) wr.heap.size (by rfl) (.tmp 34) (.tmp 39) 29 9 (.string ⟨#[]⟩) 16 rfl Tryd.underlying29 info9 rfl (by decide) (by omega) v34 ([] ++ cur) [x] A39 [x].length c39 (fun _ => True) (fun _ => False) rfl rfl H34.out hr39 (fun _ _ h_ => h_) (fun _ h_ => h_.elim) (fun _ _ => trivial) HW.out (below_size HW.out) (by have := LM.out; simp only [List.nil_append, List.length_cons, List.length_nil]; omega) ?_
        intro v40 w40 ho40 hb40 hg40 hn40
        have H40 := Aside0.mk ho40
        clear HW
        have HW := Aside0.mk hb40
        clear ho40 hb40 hg40 hn40
        refine hK.out _ _ ⟨pw_cell_below HW.out HX1.out, pw_cell_below HW.out HX2.out⟩ (fun hHeld => ?_)
        clear hK K
        refine norm_ (a' := ?_) ?_ ?_
        rotate_left
        · show Act.put _ (some 40) _ = _
          simp only [Act.put, List.setIfInBounds_toArray, List.set_cons_zero, List.set_cons_succ, i64_w, i32_w]
          rfl
        refine pure_ (i := 18) (N := some 41) (v := ?_) (a' := ?_) #[true, true, true, true, true, true, true, true, true, true, true, true, true, true, true, true, true, true, true, false] rfl rfl (by kernel_rfl) (fun _ _ _ h => h) (Or.inl ⟨by rfl, ?_⟩) ?_ ?_
        rotate_left
        · intro w'
          go_simp
          with_reducible rfl
        rotate_left
        · simp only [Act.put, List.setIfInBounds_toArray, List.set_cons_zero, List.set_cons_succ, i64_w, i32_w]
          rfl
        refine last_ (i := 19) (N := none) #[true, true, true, true, true, true, true, true, true, true, true, true, true, true, true, true, true, true, true, true] rfl rfl (by kernel_rfl) (by decide) (fun K hK => ?_)
        obtain ⟨A40, c40, e40⟩ := Kd.R_slice H40.out
        subst e40
        have HH40 := Kd.H_below HH.out HW.out
        have hp0 : (0 : Int) ≤ (jl : Int) := by omega
        have hp1 : (jl : Int) < (rs.length : Int) := by omega
        obtain ⟨hcc, hfr⟩ := Kd.H_at HH40 hp0 hp1
        have hx19 := hcc 0 _ rfl
        have hf19 := hfr 0
        have HP := Kd.S_seg0 HH40 hp0 hp1 (seg := [.slice A40 (([] ++ cur) ++ [x]).length c40]) (j := 0) (show 0 + 1 ≤ 1 from by decide) (x' := ([] ++ cur) ++ [x]) (Kd.M_row (Kd.R_lower (Kd.R_bound H40.out) (below_size HB.out))) (fun k_ hk_ => .inr ⟨trivial, hk_.2.1⟩)
        simp only [show (Kd.slice 9 Kd.string).sz = 1 from rfl, Nat.mul_one, Nat.add_zero, Int.toNat_natCast] at hx19 hf19 HP
        clear hcc hfr
        refine skip_ (w1 := ?_) (by rfl) rfl ?_ ?_
        rotate_left
        · go_simp
          rfl
        refine hK.out _ _ ?_
        clear hK K
        refine done_ (by kernel_rfl) ?_
        have hP2 : Kd.S (Kd.slice 9 Kd.string) 29 (w40.setCell ⟨gr, jl, none⟩ (.slice A40 (cur.length + 1) c40)) w.heap.size (fun _ => True) (.slice (some ⟨gr, 0, none⟩) rs.length co) rs' := by
          have h1 := HP.1
          rw [List.nil_append, Nr.out, show (cur ++ [x]).length = cur.length + 1 from by simp] at h1
          exact h1
        have HO2 := Aside0.mk hP2
        have HB2 := Aside0.mk (below_set (below_step HB.out HW.out) GB.out : Below w.heap.size w (w40.setCell ⟨gr, jl, none⟩ (.slice A40 (cur.length + 1) c40)))
        clear HP hP2 hx19 hf19 HH40 H40 hHeld HB HO HH HX1 HX2 HW H34 H39 hr39 l39
        generalize w40.setCell ⟨gr, jl, none⟩ (.slice A40 (cur.length + 1) c40) = w50 at HO2 HB2 ⊢
        try go_wp2
        go_roundw
        case rel => exact ⟨k + 1, rs', by omega, by go_num, hS', HO2, HB2⟩
        case measure => simp [intOf]; omega
    · obtain rfl : k = l0.length := by omega
      have hS := HS.out
      rw [List.drop_length] at hS
      obtain rfl := Option.some.inj hS
      go_wp2
      go_ret
      exact ⟨_, rfl, HO.out, HB.out⟩
end Go.Proofs.YthefdpioaapomaaDoor.Ext
