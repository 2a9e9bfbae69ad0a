/- The statement JoinSays, walked by hand: it answers true. -/
import Derived.Test.YthefdpioaapomaaDoorLoadR
import Derived.Test.YthefdpioaapomaaDoorPu7
import Derived.Test.YthefdpioaapomaaDoorPA5
import Derived.Deep.QuietTactic
import Derived.BigQuiet
import Derived.WalkSpells
import Derived.WalkLawsBesides
import Derived.Test.YthefdpioaapomaaDoorPA1
import Derived.Test.YthefdpioaapomaaDoorPJ1
import Derived.Test.YthefdpioaapomaaDoorPj
import Derived.Test.YthefdpioaapomaaDoorLq7
namespace Go.Proofs.YthefdpioaapomaaDoor.Pj
set_option linter.unusedVariables false
set_option linter.unusedSimpArgs false
open Go.RowKit Go.Proofs.YthefdpioaapomaaDoorW.PrintWords Go.Proofs.YthefdpioaapomaaDoorW.PrintLast Go.Proofs.YthefdpioaapomaaDoor.Ext Go.Proofs.YthefdpioaapomaaDoorW.PrintMore Go.Proofs.YthefdpioaapomaaDoor.PA Go.Proofs.YthefdpioaapomaaDoor.PJ Go.Proofs.YthefdpioaapomaaDoor.Pl Go.Proofs.YthefdpioaapomaaDoor.Pu7

/-! Each key stands once -/
def Uniq (fs : PL) : Prop := ∀ e ∈ fs, getP fs e.1 = some e.2
theorem rowP_uniq {fs : PL} (h : Uniq fs) (l : List Bs) : Uniq (rowP fs l).2 := by
  match l with
  | [] => exact h
  | [_] => exact h
  | a :: b :: l =>
    rw [rowP]
    split
    · split
      · cases hg : getP fs (a, b) with
        | some x => exact h
        | none =>
          intro e he
          rcases List.mem_cons.1 he with rfl | he
          · rw [getP, if_pos rfl]
          · have hne : (a, b) ≠ e.1 := fun hk => by rw [hk, h e he] at hg; cases hg
            rw [getP, if_neg hne]
            exact h e he
      · exact h
    · exact h
theorem loadQ_uniq : ∀ (rs : List Row) (fs : PL), Uniq fs → Uniq (loadQ rs fs).2.2
  | [], fs, h => h
  | r :: rs, fs, h => by
    rw [loadQ]
    split
    · split
      · exact loadQ_uniq rs _ (rowP_uniq h _)
      · exact h
    · exact loadQ_uniq rs fs h
/-- The document's answer to Find. -/
def FoundQ (w : World) (e : Ending) : Option (List Bs) → Prop
  | some xs => ∃ A c, e = .returned (.tuple #[.slice A xs.length c, .bool true]) ∧ xs.length ≤ c ∧ Kd.C Kd.string w A xs.length (xs.map ofL)
  | none => e = .returned (.tuple #[.slice none 0 0, .bool false])
theorem at_texts {w : World} {base B : Nat} {vL vW vT : Value} {fs : PL} (h : RefAt w base B vL vW vT (lsOf fs) (wsOf fs) (tsOf fs)) {q : Nat} (hq : q < fs.length) : ∃ g cT A1 c1, vT = .slice (some ⟨g, 0, none⟩) fs.length cT ∧ w.cell? ⟨g, q, none⟩ = some (.slice A1 ((tsOf fs).getD q []).length c1) ∧ ((tsOf fs).getD q []).length ≤ c1 ∧ Kd.C Kd.string w A1 ((tsOf fs).getD q []).length ((tsOf fs).getD q []) := by
  obtain ⟨g, cT, rfl, _⟩ := Kd.N_form h.T (by rw [tsOf_len]; omega)
  obtain ⟨cs, hcl, hF, hcc, _⟩ := Kd.N_elem h.T [] (q : Int) (by omega) (by rw [tsOf_len]; omega)
  rw [Int.toNat_natCast] at hF hcc
  obtain ⟨A1, c1, rfl, hl, hf⟩ := Kd.FK_slice_open hF
  have hc := hcc 0 _ rfl
  rw [show kStrs.sz = 1 from rfl, Nat.mul_one, Nat.add_zero] at hc
  exact ⟨g, cT, A1, c1, by rw [tsOf_len], hc, hl, Kd.F_now hf⟩
set_option maxHeartbeats 8000000 in
set_option maxRecDepth 100000 in
theorem find18_any (base B : Nat) (vL vW vT : Value) (fs : PL) (A : Option Addr) (c : Nat) (chain : List Bs) (s : ByteArray) (w : World) (hG : Glob w) (hR : RefAt w base B vL vW vT (lsOf fs) (wsOf fs) (tsOf fs)) (hX : w.heap[B]? = some (.cells #[vL, vW, vT] 120 (0, 0))) (hfl : fs.length ≤ 1000) (hU : Uniq fs)
    (hC : Kd.C Kd.string w A chain.length (chain.map ofL)) (hc : chain.length ≤ c) (hcl : chain.length ≤ 1000) (r : Option (List Bs)) (hr : findP fs (widthsB s.data.toList) chain = r) :
    Calls Tryd.prog 63 #[.pointer (some ⟨B, 0, none⟩), .slice A chain.length c, .string s] w fun e w' => FoundQ w' e r ∧ Below w.heap.size w w' := by
  obtain ⟨ws, hws⟩ : ∃ x, widthsB s.data.toList = x := ⟨_, rfl⟩
  have hwl : ws.length ≤ 3 := by
    rw [← hws]
    unfold widthsB
    split
    · exact Nat.le_refl _
    · split
      · exact Nat.le_succ _
      · decide
  have hwid := fun w hG => widths18_any s w hG
  rw [hws] at hr hwid
  obtain ⟨AL, cL, hvL, hcL, hCL⟩ := Kd.R_reads hR.L
  rw [lsOf_len] at hvL hcL hCL
  obtain ⟨AW, cW, hvW, hcW, hCW⟩ := Kd.R_reads hR.W
  rw [wsOf_len] at hvW hcW hCW
  obtain ⟨AT, cT, hvT, hcT, _⟩ := Kd.N_reads hR.T
  rw [tsOf_len] at hvT hcT
  subst hvL hvW hvT
  have HCL := Aside0.mk hCL
  have HCW := Aside0.mk hCW
  have HG := Aside0.mk hG
  have HR := Aside0.mk hR
  have HX := Aside0.mk hX
  have HU := Aside0.mk hU
  have HC := Aside0.mk hC
  have HWd := Aside0.mk hwid
  have HRes := Aside0.mk hr
  clear hG hR hX hU hC hwid hr hCL hCW hws hcT
  go_enter Tryd.func63, Tryd.ntmps63
  go_wp2_with fail
  refine (HWd.out _ HG.out).mono ?_
  rintro e w1 ⟨⟨A2, c2, rfl, hc2, hC2⟩, hb⟩
  have HC2 := Aside0.mk hC2
  have HB := Aside0.mk hb
  clear hb hC2
  go_wp2_with fail
  go_loopw [9] (fun i wr => ∃ (j : Nat), j ≤ chain.length ∧ i = .int .i64 j ∧ Aside0 (findP fs ws (chain.drop j) = r) ∧ Aside0 (Below w1.heap.size w1 wr)) (fun i _ => chain.length - (intOf i).toNat)
  case atStart => exact ⟨0, Nat.zero_le _, rfl, HRes, ⟨Below.refl _ _⟩⟩
  case round =>
    obtain ⟨j, hj, rfl, HE, HBr⟩ := hrel
    rename World => wr
    by_cases hlt : j < chain.length
    case neg =>
      obtain rfl : chain.length = j := by omega
      have hE := HE.out
      rw [List.drop_length, findP] at hE
      have HE2 := Aside0.mk hE
      clear hE
      go_wp2_with fail
      go_ret2
      exact ⟨by rw [← HE2.out]; exact rfl, below_step HB.out HBr.out⟩
    have hE := HE.out
    rw [List.drop_eq_getElem_cons hlt, findP] at hE
    obtain ⟨bk, o, rfl, hcs⟩ := C_strsD HC.out (by omega)
    have hxc := hcs j (by rw [List.length_map]; exact hlt)
    rw [List.getD_eq_getElem?_getD, List.getElem?_map, List.getElem?_eq_getElem hlt] at hxc
    replace hxc : w.cell? ⟨bk, o + j, none⟩ = some (.string (ofL chain[j])) := hxc
    generalize chain[j] = a at hE hxc
    have HXc := Aside0.mk hxc
    have HE2 := Aside0.mk hE
    have b0 : (0 : Int) ≤ (j : Int) := by omega
    clear hcs hxc hE HE
    go_wp2_with fail
    go_loopw [10] (fun i wq => ∃ (q : Nat), q ≤ ws.length ∧ i = .int .i64 q ∧ Aside0 (findPW fs a (ws.drop q) = findPW fs a ws) ∧ Aside0 (Below wr.heap.size wr wq)) (fun i _ => ws.length - (intOf i).toNat)
    case atStart => exact ⟨0, Nat.zero_le _, rfl, ⟨rfl⟩, ⟨Below.refl _ _⟩⟩
    case round =>
      obtain ⟨q, hq, rfl, HQ, HBq⟩ := hrel
      rename World => wq
      by_cases hlq : q < ws.length
      case neg =>
        obtain rfl : q = ws.length := by omega
        have hQ := HQ.out
        rw [List.drop_length, findPW] at hQ
        have hE3 := HE2.out
        rw [← hQ] at hE3
        have HE4 : Aside0 (findP fs ws (chain.drop (j + 1)) = r) := ⟨hE3⟩
        clear hQ hE3
        go_wp2_with fail
        exact ⟨⟨j + 1, by omega, by go_num, HE4, ⟨below_step HBr.out HBq.out⟩⟩, by simp [intOf]; omega⟩
      have hQ := HQ.out
      rw [List.drop_eq_getElem_cons hlq, findPW] at hQ
      obtain ⟨bk2, o2, rfl, hcs2⟩ := C_strsD HC2.out (by omega)
      have hxw := hcs2 q (by rw [List.length_map]; exact hlq)
      rw [List.getD_eq_getElem?_getD, List.getElem?_map, List.getElem?_eq_getElem hlq] at hxw
      replace hxw : w1.cell? ⟨bk2, o2 + q, none⟩ = some (.string (ofL ws[q])) := hxw
      generalize ws[q] = b at hQ hxw
      have HXw := Aside0.mk hxw
      have HQ2 := Aside0.mk hQ
      have b1 : (0 : Int) ≤ (q : Int) := by omega
      clear hcs2 hxw hQ HQ
      go_wp2_with fail
      go_loopw [11] (fun i wz => ∃ (p : Nat), p ≤ fs.length ∧ i = .int .i64 p ∧ Aside0 (∀ e ∈ fs.reverse.take p, e.1 ≠ (a, b)) ∧ Aside0 (Below wq.heap.size wq wz)) (fun i _ => fs.length - (intOf i).toNat)
      case atStart => exact ⟨0, Nat.zero_le _, rfl, ⟨fun e he => by simp at he⟩, ⟨Below.refl _ _⟩⟩
      case round =>
        obtain ⟨p, hp, rfl, HNe, HBz⟩ := hrel
        rename World => wz
        have HBw1 : Aside0 (Below w1.heap.size w1 wz) := ⟨below_step (below_step HBr.out HBq.out) HBz.out⟩
        have HBw : Aside0 (Below w.heap.size w wz) := ⟨below_step HB.out HBw1.out⟩
        have x0 : wz.cell? ⟨B, 0, none⟩ = some (.slice AL fs.length cL) := (blk_cell (blk_below HX.out HBw.out) 0).trans rfl
        have x1 : wz.cell? ⟨B, 1, none⟩ = some (.slice AW fs.length cW) := (blk_cell (blk_below HX.out HBw.out) 1).trans rfl
        by_cases hlp : p < fs.length
        case neg =>
          obtain rfl : fs.length = p := by omega
          have hQ := HQ2.out
          rw [getP_none (fs := fs) (k := (a, b)) (fun e he => HNe.out e (by rw [List.take_of_length_le (by rw [List.length_reverse]; omega)]; exact List.mem_reverse.2 he))] at hQ
          have HQ3 : Aside0 (findPW fs a (ws.drop (q + 1)) = findPW fs a ws) := ⟨hQ⟩
          clear hQ x1
          go_wp2_with fail
          exact ⟨⟨q + 1, by omega, by go_num, HQ3, ⟨below_step HBq.out HBz.out⟩⟩, by simp [intOf]; omega⟩
        obtain ⟨bL, oL, rfl, hcsL⟩ := C_strsD HCL.out (by omega)
        obtain ⟨bW, oW, rfl, hcsW⟩ := C_strsD HCW.out (by omega)
        have hyL := pw_cell_below HBw.out (hcsL p (by rw [lsOf_len]; exact hlp))
        have hyW := pw_cell_below HBw.out (hcsW p (by rw [wsOf_len]; exact hlp))
        obtain ⟨e, hem, eL, eW, eT, etk⟩ := at_rev hlp
        rw [eL] at hyL
        rw [eW] at hyW
        have hya := pw_cell_below HBw.out HXc.out
        have hyb := pw_cell_below HBw1.out HXw.out
        have hqi : (p : Int) < (fs.length : Int) := by omega
        have hq0 : (0 : Int) ≤ (p : Int) := by omega
        have hnext : e.1 ≠ (a, b) → ∀ e' ∈ fs.reverse.take (p + 1), e'.1 ≠ (a, b) := fun hne e' he' => by
          rw [etk] at he'
          rcases List.mem_append.1 he' with he' | he'
          · exact HNe.out e' he'
          · rw [List.mem_singleton.1 he']
            exact hne
        have HNx := Aside0.mk hnext
        have HET := Aside0.mk eT
        clear hcsL hcsW eL eW eT etk hnext
        by_cases ha : e.1.1 = a
        case neg =>
          have HNN : Aside0 (∀ e' ∈ fs.reverse.take (p + 1), e'.1 ≠ (a, b)) := ⟨HNx.out (fun h => ha (by rw [h]))⟩
          have f1 := str_ne ha
          generalize ofL e.1.1 = X at hyL f1
          generalize ofL a = Y at hya f1
          clear ha hyb hyW x1
          go_wp2_with fail
          go_quiet (fail)
          go_wp2_with fail
          exact ⟨⟨p + 1, by omega, by go_num, HNN, ⟨pw_below_drewN HBz.out _⟩⟩, by simp [intOf]; omega⟩
        have f1 : ((ofL e.1.1).toList == (ofL a).toList) = true := by rw [ha]; exact beq_self_eq_true _
        have HA1 := Aside0.mk ha
        clear ha
        by_cases hb : e.1.2 = b
        case neg =>
          have HNN : Aside0 (∀ e' ∈ fs.reverse.take (p + 1), e'.1 ≠ (a, b)) := ⟨HNx.out (fun h => hb (by rw [h]))⟩
          have f2 := str_ne hb
          generalize ofL e.1.1 = X at hyL f1
          generalize ofL a = Y at hya f1
          generalize ofL e.1.2 = X2 at hyW f2
          generalize ofL b = Y2 at hyb f2
          clear hb
          go_wp2_with fail
          go_quiet (fail)
          go_wp2_with fail
          exact ⟨⟨p + 1, by omega, by go_num, HNN, ⟨pw_below_drewN HBz.out _⟩⟩, by simp [intOf]; omega⟩
        have f2 : ((ofL e.1.2).toList == (ofL b).toList) = true := by rw [hb]; exact beq_self_eq_true _
        have hk : e.1 = (a, b) := Prod.ext HA1.out hb
        have hg : getP fs (a, b) = some e.2 := by rw [← hk]; exact HU.out e hem
        have hQ := HQ2.out
        rw [hg] at hQ
        have hE3 := HE2.out
        rw [← hQ] at hE3
        have HE4 : Aside0 (some e.2 = r) := ⟨hE3⟩
        obtain ⟨g, cT', A1, c1, hvT, hyT, hc1, hCt⟩ := at_texts HR.out hlp
        rw [HET.out, List.length_map] at hyT hc1 hCt
        injection hvT with hvT1 hvT2 hvT3
        subst hvT1 hvT3
        have y2 : wz.cell? ⟨B, 2, none⟩ = some (.slice (some ⟨g, 0, none⟩) fs.length cT) := (blk_cell (blk_below HX.out HBw.out) 2).trans rfl
        have yT := pw_cell_below HBw.out hyT
        have HCt := Aside0.mk (Kd.C_below hCt HBw.out)
        obtain ⟨nl, hnl⟩ : ∃ m, e.2.length = m := ⟨_, rfl⟩
        rw [hnl] at yT hc1
        have HNl := Aside0.mk hnl
        generalize ofL e.1.1 = X at hyL f1
        generalize ofL a = Y at hya f1
        generalize ofL e.1.2 = X2 at hyW f2
        generalize ofL b = Y2 at hyb f2
        clear hb hk hg hQ hE3 hyT hCt hnl hvT2
        go_wp2_with fail
        go_quiet (fail)
        go_wp2_with fail
        go_ret2
        refine ⟨?_, pw_below_drewN HBw.out _⟩
        rw [← HE4.out]
        exact ⟨A1, c1, by rw [HNl.out]; rfl, by rw [HNl.out]; exact hc1, Kd.C_below HCt.out (pw_below_drewN (Below.refl _ _) _)⟩
end Go.Proofs.YthefdpioaapomaaDoor.Pj
namespace Go.Proofs.YthefdpioaapomaaDoor.Pj
set_option linter.unusedVariables false
set_option linter.unusedSimpArgs false
open Go.RowKit Go.Proofs.YthefdpioaapomaaDoorW.PrintWords Go.Proofs.YthefdpioaapomaaDoorW.PrintLast Go.Proofs.YthefdpioaapomaaDoor.Ext Go.Proofs.YthefdpioaapomaaDoorW.PrintMore Go.Proofs.YthefdpioaapomaaDoor.PA Go.Proofs.YthefdpioaapomaaDoor.PJ Go.Proofs.YthefdpioaapomaaDoor.Pl Go.Proofs.YthefdpioaapomaaDoor.Pu7

theorem fillR_any (t : ByteArray) (A : Option Addr) (c : Nat) (l : List ByteArray) (w : World) (hC : Kd.C Kd.string w A l.length l) (hc : l.length ≤ c) (ht : t.size ≤ 120) (hl : l.length ≤ 100) (hs : (fillX l t).size ≤ 140737488355328) (hG : Glob w) :
    Calls Tryd.prog 93 #[.string t, .slice A l.length c] w fun e w' => e = .returned (.string (fillX l t)) ∧ Below w.heap.size w w' := by
  have hm : (l.map (·.data.toList)).map ofL = l := by
    rw [List.map_map]
    conv => rhs; rw [← List.map_id l]
    exact List.map_congr_left (fun x _ => data_ofL x)
  have hf : ofL (fillP (l.map (·.data.toList)) t.data.toList) = fillX l t := by
    unfold fillP fillX
    rw [hm]
    rfl
  have hz : (fillP (l.map (·.data.toList)) t.data.toList).length < 9000000000000000000 := by
    have h := congrArg ByteArray.size hf
    rw [ofL_size] at h
    omega
  obtain ⟨k, hk⟩ := Ev.rounds (fill18_ev (l.map (·.data.toList)) t.data.toList (by have : t.data.toList.length = t.size := rfl; omega) (by rw [List.length_map]; exact hl) hz)
  rw [hm, data_ofL, hf] at hk
  refine (cubitref18_Fill.calls k t A c l _ w hC hc hk hG).mono ?_
  rintro e w' ⟨rfl, hd⟩
  exact ⟨rfl, drawn_below hd⟩
theorem fill2R_any (t x y : ByteArray) (w : World) (g : Nat) (hg : w.heap.size = g) (ht : t.size ≤ 120) (hs : (fillX [x, y] t).size ≤ 140737488355328) (r : ByteArray) (hr : fillX [x, y] t = r) (hG : Glob w) :
    Calls Tryd.prog 93 #[.string t, .slice (some ⟨g, 0, none⟩) 2 2] (w.alloc (.cells #[.string x, .string y] 9)).drew fun e w' => e = .returned (.string r) ∧ Below w.heap.size w w' := by
  subst hg
  subst hr
  refine (fillR_any t (some ⟨w.heap.size, 0, none⟩) 2 [x, y] _ (Kd.C_drew (litM w [x, y] (by simp))) (Nat.le_refl _) ht (by simp) hs (hG.below (below_drew (below_alloc (Below.refl _ _) _)))).mono ?_
  rintro e w' ⟨rfl, hb⟩
  exact ⟨rfl, below_step (below_drew (below_alloc (Below.refl _ _) _)) hb⟩
theorem fill_twoR (t : ByteArray) (A : Option Addr) (c : Nat) (l : List ByteArray) (w : World) (h2 : l.length = 2) (hC : Kd.C Kd.string w A 2 l) (hc : 2 ≤ c) (ht : t.size ≤ 120) (hs : (fillX l t).size ≤ 140737488355328) (hG : Glob w) :
    Calls Tryd.prog 93 #[.string t, .slice A 2 c] w fun e w' => e = .returned (.string (fillX l t)) ∧ Below w.heap.size w w' := by
  have h := fillR_any t A c l w (by rw [h2]; exact hC) (by omega) ht (by omega) hs hG
  rw [h2] at h
  exact h
theorem findP_mem {fs : PL} {ws : List Bs} {x : List Bs} : ∀ {ch : List Bs}, findP fs ws ch = some x → ∃ f ∈ fs, f.2 = x := by
  have mem : ∀ {fs : PL} {k : PKey}, getP fs k = some x → ∃ f ∈ fs, f.2 = x := by
    intro fs k
    induction fs with
    | nil => intro h; cases h
    | cons f fs ih =>
      intro h
      rw [getP] at h
      split at h
      · obtain rfl := Option.some.inj h
        exact ⟨f, List.mem_cons_self, rfl⟩
      · obtain ⟨g, hg, e⟩ := ih h
        exact ⟨g, List.mem_cons_of_mem _ hg, e⟩
  have inner : ∀ (a : Bs) (ws : List Bs), findPW fs a ws = some x → ∃ f ∈ fs, f.2 = x := by
    intro a ws
    induction ws with
    | nil => intro h; cases h
    | cons b ws ih =>
      intro h
      rw [findPW] at h
      split at h
      · rename_i y hy
        obtain rfl := Option.some.inj h
        exact mem hy
      · exact ih h
  intro ch
  induction ch with
  | nil => intro h; cases h
  | cons a ch ih =>
    intro h
    rw [findP] at h
    split at h
    · rename_i y hy
      obtain rfl := Option.some.inj h
      exact inner a ws hy
    · exact ih h
set_option maxHeartbeats 4000000 in
set_option maxRecDepth 100000 in
theorem joinT18_any (base B : Nat) (vL vW vT : Value) (fs : PL) (A A3 : Option Addr) (c c3 : Nat) (chain : List Bs) (l : List ByteArray) (s : ByteArray) (w : World) (hG : Glob w) (hRA : RefAt w base B vL vW vT (lsOf fs) (wsOf fs) (tsOf fs)) (hX : w.heap[B]? = some (.cells #[vL, vW, vT] 120 (0, 0))) (hfl : fs.length ≤ 1000) (hU : Uniq fs)
    (hC : Kd.C Kd.string w A chain.length (chain.map ofL)) (hc : chain.length ≤ c) (hcl : chain.length ≤ 1000) (hC3 : Kd.C Kd.string w A3 l.length l) (hc3 : l.length ≤ c3) (hfs : FourP 120 fs) (hl8 : l.length ≤ 8) (hl30 : ∀ x ∈ l, x.size ≤ 30) :
    Calls Tryd.prog 62 #[.pointer (some ⟨B, 0, none⟩), .slice A chain.length c, .string s, .slice A3 l.length c3] w fun e w' => e = .returned (.tuple #[.string (joinT (encP fs) ((widthsB s.data.toList).map ofL) (chain.map ofL) l).1, .bool (joinT (encP fs) ((widthsB s.data.toList).map ofL) (chain.map ofL) l).2]) ∧ Below w.heap.size w w' := by
  obtain ⟨r, hr⟩ : ∃ r, r = joinT (encP fs) ((widthsB s.data.toList).map ofL) (chain.map ofL) l := ⟨_, rfl⟩
  rw [← hr]
  obtain ⟨rs, rb⟩ := r
  obtain ⟨fq, hfq⟩ : ∃ x, findP fs (widthsB s.data.toList) chain = x := ⟨_, rfl⟩
  have HFi := Aside0.mk (find18_any base B vL vW vT fs A c chain s w hG hRA hX hfl hU hC hc hcl fq hfq)
  have hfe : findL (encP fs) ((widthsB s.data.toList).map ofL) (chain.map ofL) = fq.map (·.map ofL) := by rw [findL_enc, hfq]
  have HFq := Aside0.mk hfq
  have HFe := Aside0.mk hfe
  have HR := Aside0.mk hr
  have HG := Aside0.mk hG
  have HC3 := Aside0.mk hC3
  have HF := Aside0.mk hfs
  have H30 := Aside0.mk hl30
  clear hG hRA hX hU hC hC3 hfs hl30 hr hfq hfe
  obtain ⟨nl, hnl⟩ : ∃ m, m = l.length := ⟨_, rfl⟩
  rw [← hnl] at hc3 hl8 ⊢
  have HN := Aside0.mk hnl
  clear hnl
  dsimp only
  go_enter Tryd.func62, Tryd.ntmps62
  by_cases h0 : nl = 0
  · subst h0
    have hR := HR.out
    rw [joinT, if_pos HN.out.symm] at hR
    obtain ⟨rfl, rfl⟩ := Prod.mk.inj hR
    clear hR
    go_wp2_with fail
    go_ret2
    exact ⟨rfl, Below.refl _ _⟩
  by_cases h1 : nl = 1
  · subst h1
    have hR := HR.out
    rw [joinT, if_neg (by have := HN.out; omega), if_pos HN.out.symm] at hR
    obtain ⟨rfl, rfl⟩ := Prod.mk.inj hR
    obtain ⟨bk, o, rfl, hcs⟩ := C_strsD HC3.out (by have := HN.out; omega)
    have hx := hcs 0 (by have := HN.out; omega)
    rw [Nat.add_zero] at hx
    clear hR hcs
    go_wp2_with fail
    go_ret2
    exact ⟨rfl, Below.refl _ _⟩
  have f1 : ((nl : Int) == 0) = false := by simp; omega
  have f2 : ((nl : Int) == 1) = false := by simp; omega
  have f3 : (2 : Int) ≤ (nl : Int) := by omega
  go_wp2_with fail
  refine HFi.out.mono ?_
  rintro e w1 ⟨hF, hb1⟩
  have HB1 := Aside0.mk hb1
  clear hb1
  have hR := HR.out
  rw [joinT, if_neg (by rw [← HN.out]; exact h0), if_neg (by rw [← HN.out]; exact h1), HFe.out] at hR
  cases fq with
  | none =>
    obtain ⟨rfl, rfl⟩ := Prod.mk.inj hR
    obtain rfl := hF
    clear hR
    go_wp2_with fail
    go_ret2
    exact ⟨rfl, HB1.out⟩
  | some t =>
    obtain ⟨A5, c5, rfl, hc5, hC5⟩ := hF
    obtain ⟨f, hf, rfl⟩ := findP_mem HFq.out
    obtain ⟨h4, h120p⟩ := HF.out f hf
    obtain ⟨T, hT⟩ : ∃ T, T = f.2.map ofL := ⟨_, rfl⟩
    have h4T : T.length = 4 := by rw [hT, List.length_map, h4]
    have h120 : ∀ t ∈ T, t.size ≤ 120 := fun t ht => by
      rw [hT] at ht
      obtain ⟨x, hx, rfl⟩ := List.mem_map.1 ht
      rw [ofL_size]
      exact h120p x hx
    rw [h4] at hc5 hC5 ⊢
    rw [← hT] at hC5
    rw [Option.map_some, ← hT] at hR
    clear h4 h120p hT
    have h4 := h4T
    obtain ⟨bk5, o5, rfl, hcs5⟩ := C_strsD hC5 (by omega)
    obtain ⟨bk, o, rfl, hcs⟩ := C_strsD HC3.out (by have := HN.out; omega)
    dsimp only at hR
    obtain ⟨t0, ht0⟩ : ∃ x, x = T.getD 0 eB := ⟨_, rfl⟩
    obtain ⟨t1, ht1⟩ : ∃ x, x = T.getD 1 eB := ⟨_, rfl⟩
    obtain ⟨t2, ht2⟩ : ∃ x, x = T.getD 2 eB := ⟨_, rfl⟩
    obtain ⟨t3, ht3⟩ : ∃ x, x = T.getD 3 eB := ⟨_, rfl⟩
    have small : ∀ j, j < 4 → (T.getD j eB).size ≤ 120 := fun j hj => by
      rw [List.getD_eq_getElem?_getD, List.getElem?_eq_getElem (by omega)]
      exact h120 _ (List.getElem_mem _)
    have s0 := small 0 (by omega)
    have s1 := small 1 (by omega)
    have s2 := small 2 (by omega)
    have s3 := small 3 (by omega)
    have hy0 := hcs5 0 (by omega)
    have hy1 := hcs5 1 (by omega)
    have hy2 := hcs5 2 (by omega)
    have hy3 := hcs5 3 (by omega)
    rw [← ht0] at hy0 s0
    rw [Nat.add_zero] at hy0
    rw [← ht1] at hy1 s1
    rw [← ht2] at hy2 s2
    rw [← ht3] at hy3 s3
    rw [← ht0, ← ht1, ← ht2, ← ht3, ← HN.out] at hR
    have S0 := Aside0.mk s0
    have S1 := Aside0.mk s1
    have S2 := Aside0.mk s2
    have S3 := Aside0.mk s3
    have Y0 := Aside0.mk hy0
    have Y1 := Aside0.mk hy1
    have Y2 := Aside0.mk hy2
    have Y3 := Aside0.mk hy3
    have HRr := Aside0.mk hR
    have HCs : Aside0 (∀ j, j < nl → w1.cell? ⟨bk, o + j, none⟩ = some (.string (l.getD j eB))) := ⟨fun j hj => pw_cell_below HB1.out (hcs j (by rw [← HN.out]; exact hj))⟩
    have H5n : Aside0 (T.length = 4) := ⟨h4⟩
    have H30' : Aside0 (∀ j, j < nl → (l.getD j eB).size ≤ 30) := ⟨fun j hj => by
      rw [List.getD_eq_getElem?_getD, List.getElem?_eq_getElem (by rw [← HN.out]; exact hj)]
      exact H30.out _ (List.getElem_mem _)⟩
    clear hR ht0 ht1 ht2 ht3 s0 s1 s2 s3 small hcs hcs5 hC5 h120 h4 h4T hf hy0 hy1 hy2 hy3
    by_cases h2 : nl = 2
    · subst h2
      have hR := HRr.out
      rw [if_pos rfl] at hR
      obtain ⟨rfl, rfl⟩ := Prod.mk.inj hR
      have hlen : l.length = 2 := HN.out.symm
      have hx0 := Y0.out
      clear hR
      have HC6 := Aside0.mk (Kd.C_below HC3.out HB1.out)
      rw [hlen] at HC6
      have HSz : Aside0 ((fillX l t0).size ≤ 140737488355328) := ⟨Nat.le_trans (fillX_le S0.out (j := 0) (fun x hx => H30.out x hx)) (weigh_most (by omega))⟩
      have HLn := Aside0.mk hlen
      clear hlen
      go_wp2_with fail
      refine (fill_twoR t0 _ c3 l _ HLn.out HC6.out hc3 S0.out HSz.out (HG.out.below HB1.out)).mono ?_
      rintro e w2 ⟨rfl, hb⟩
      go_wp2_with fail
      go_ret2
      exact ⟨rfl, below_step HB1.out hb⟩
    · have hR := HRr.out
      rw [if_neg h2] at hR
      have f4 : ((nl : Int) == 2) = false := by simp; omega
      have f5 : (3 : Int) ≤ (nl : Int) := by omega
      have f6 : (nl : Int) ≤ 8 := by omega
      clear f1 f2 h0 h1 h2
      obtain ⟨y2, hy2⟩ : ∃ x, x = l.getD (nl - 2) eB := ⟨_, rfl⟩
      obtain ⟨y1, hy1⟩ : ∃ x, x = l.getD (nl - 1) eB := ⟨_, rfl⟩
      obtain ⟨y0, hy0⟩ : ∃ x, x = l.getD 0 eB := ⟨_, rfl⟩
      have X2 : Aside0 (w1.cell? ⟨bk, o + (nl - 2), none⟩ = some (.string y2)) := ⟨by rw [hy2]; exact HCs.out _ (by omega)⟩
      have X1 : Aside0 (w1.cell? ⟨bk, o + (nl - 1), none⟩ = some (.string y1)) := ⟨by rw [hy1]; exact HCs.out _ (by omega)⟩
      have Q2 : Aside0 (y2.size ≤ 30) := ⟨by rw [hy2]; exact H30'.out _ (by omega)⟩
      have Q1 : Aside0 (y1.size ≤ 30) := ⟨by rw [hy1]; exact H30'.out _ (by omega)⟩
      have Q0 : Aside0 (y0.size ≤ 30) := ⟨by rw [hy0]; exact H30'.out _ (by omega)⟩
      have X00 : Aside0 (w1.cell? ⟨bk, o, none⟩ = some (.string y0)) := ⟨by rw [hy0]; exact HCs.out 0 (by omega)⟩
      rw [← hy2, ← hy1, ← hy0] at hR
      clear hy2 hy1 hy0 HR HRr
      obtain ⟨s0, hs0⟩ : ∃ x, fillX [y2, y1] t3 = x := ⟨_, rfl⟩
      rw [hs0] at hR
      have HR3 := Aside0.mk hR
      clear hR
      have FR := Aside0.mk hs0
      have SZ1 : Aside0 ((fillX [y2, y1] t3).size ≤ weigh 1) := ⟨fillX_le S3.out (j := 0) (by intro x hx; rcases List.mem_cons.1 hx with rfl | hx; exact Q2.out; rcases List.mem_cons.1 hx with rfl | hx; exact Q1.out; cases hx)⟩
      have SZ : Aside0 ((fillX [y2, y1] t3).size ≤ 140737488355328) := ⟨Nat.le_trans SZ1.out (weigh_most (by omega))⟩
      have ST := S3
      have l2 : nl - 2 < nl := by omega
      have l1 : nl - 1 < nl := by omega
      clear hs0
      go_wp2_with fail
      have e2 : wrap64 ((nl : Int) - 2) = ((nl - 2 : Nat) : Int) := by unfold wrap64; omega
      have e1 : wrap64 ((nl : Int) - 1) = ((nl - 1 : Nat) : Int) := by unfold wrap64; omega
      refine start_ (n := 16) (S := fun w' => w'.cell? ⟨bk5, o5 + 3, none⟩ = some (.string t3) ∧ w'.cell? ⟨bk, o + (nl - 2), none⟩ = some (.string y2) ∧ w'.cell? ⟨bk, o + (nl - 1), none⟩ = some (.string y1)) (ds := []) #[false, false, false, false, false, false, false, false, false, false, false, false, false, false, false, false] (by kernel_rfl) rfl rfl ⟨pw_cell_below (below_drew (Below.refl _ _)) Y3.out, pw_cell_below (below_drew (Below.refl _ _)) X2.out, pw_cell_below (below_drew (Below.refl _ _)) X1.out⟩ (fun hHeld => ?_)
      refine pure_ (i := 0) (N := some 42) (v := ?_) (a' := ?_) #[true, false, false, false, false, false, false, false, false, false, false, false, false, false, false, false] rfl rfl (by kernel_rfl) (fun _ _ _ h => h) (Or.inl ⟨by rfl, ?_⟩) ?_ ?_
      rotate_left
      · intro w'
        go_simp
        with_reducible rfl
      rotate_left
      · simp only [Act.put, List.setIfInBounds_toArray, List.set_cons_zero, List.set_cons_succ, i64_w, i32_w]
        rfl
      refine pure_ (i := 1) (N := some 43) (v := ?_) (a' := ?_) #[true, true, false, false, false, false, false, false, false, false, false, false, false, false, false, false] rfl rfl (by kernel_rfl) (fun _ _ _ h => h) (Or.inl ⟨by rfl, ?_⟩) ?_ ?_
      rotate_left
      · intro w'
        go_simp
        with_reducible rfl
      rotate_left
      · simp only [Act.put, List.setIfInBounds_toArray, List.set_cons_zero, List.set_cons_succ, i64_w, i32_w]
        rfl
      refine pure_ (i := 3) (N := some 45) (v := ?_) (a' := ?_) #[true, true, false, true, false, false, false, false, false, false, false, false, false, false, false, false] rfl rfl (by kernel_rfl) (fun _ _ _ h => h) (Or.inl ⟨by rfl, ?_⟩) ?_ ?_
      rotate_left
      · intro w'
        go_simp
        with_reducible rfl
      rotate_left
      · simp only [Act.put, List.setIfInBounds_toArray, List.set_cons_zero, List.set_cons_succ, i64_w, i32_w]
        rfl
      refine pure_ (i := 4) (N := some 46) (v := ?_) (a' := ?_) #[true, true, false, true, true, false, false, false, false, false, false, false, false, false, false, false] rfl rfl (by kernel_rfl) (fun _ _ _ h => h) (Or.inl ⟨by rfl, ?_⟩) ?_ ?_
      rotate_left
      · intro w'
        go_simp
        with_reducible rfl
      rotate_left
      · simp only [Act.put, List.setIfInBounds_toArray, List.set_cons_zero, List.set_cons_succ, i64_w, i32_w]
        rfl
      refine pure_ (i := 5) (N := some 47) (v := ?_) (a' := ?_) #[true, true, false, true, true, true, false, false, false, false, false, false, false, false, false, false] rfl rfl (by kernel_rfl) (fun _ _ _ h => h) (Or.inl ⟨by rfl, ?_⟩) ?_ ?_
      rotate_left
      · intro w'
        go_simp
        with_reducible rfl
      rotate_left
      · simp only [Act.put, List.setIfInBounds_toArray, List.set_cons_zero, List.set_cons_succ, i64_w, i32_w]
        rfl
      refine pure_ (i := 6) (N := some 48) (v := ?_) (a' := ?_) #[true, true, false, true, true, true, true, false, false, false, false, false, false, false, false, false] rfl rfl (by kernel_rfl) (fun _ _ _ h => h) (Or.inl ⟨by rfl, ?_⟩) ?_ ?_
      rotate_left
      · intro w'
        go_simp
        with_reducible rfl
      rotate_left
      · simp only [Act.put, List.setIfInBounds_toArray, List.set_cons_zero, List.set_cons_succ, i64_w, i32_w]
        rfl
      refine pure_ (i := 8) (N := some 50) (v := ?_) (a' := ?_) #[true, true, false, true, true, true, true, false, true, false, false, false, false, false, false, false] rfl rfl (by kernel_rfl) (fun _ _ _ h => h) (Or.inl ⟨by rfl, ?_⟩) ?_ ?_
      rotate_left
      · intro w'
        go_simp
        with_reducible rfl
      rotate_left
      · simp only [Act.put, List.setIfInBounds_toArray, List.set_cons_zero, List.set_cons_succ, i64_w, i32_w]
        rfl
      refine pure_ (i := 9) (N := some 51) (v := ?_) (a' := ?_) #[true, true, false, true, true, true, true, false, true, true, false, false, false, false, false, false] rfl rfl (by kernel_rfl) (fun _ _ _ h => h) (Or.inl ⟨by rfl, ?_⟩) ?_ ?_
      rotate_left
      · intro w'
        go_simp
        with_reducible rfl
      rotate_left
      · simp only [Act.put, List.setIfInBounds_toArray, List.set_cons_zero, List.set_cons_succ, i64_w, i32_w]
        rfl
      refine pure_ (i := 10) (N := some 52) (v := ?_) (a' := ?_) #[true, true, false, true, true, true, true, false, true, true, true, false, false, false, false, false] rfl rfl (by kernel_rfl) (fun _ _ _ h => h) (Or.inl ⟨by rfl, ?_⟩) ?_ ?_
      rotate_left
      · intro w'
        go_simp
        with_reducible rfl
      rotate_left
      · simp only [Act.put, List.setIfInBounds_toArray, List.set_cons_zero, List.set_cons_succ, i64_w, i32_w]
        rfl
      refine pure_ (i := 11) (N := some 53) (v := ?_) (a' := ?_) #[true, true, false, true, true, true, true, false, true, true, true, true, false, false, false, false] rfl rfl (by kernel_rfl) (fun _ _ _ h => h) (Or.inl ⟨by rfl, ?_⟩) ?_ ?_
      rotate_left
      · intro w'
        go_simp
        with_reducible rfl
      rotate_left
      · simp only [Act.put, List.setIfInBounds_toArray, List.set_cons_zero, List.set_cons_succ, i64_w, i32_w]
        rfl
      refine take_ (i := 2) (N := some 44) (v := ?_) (a' := ?_) #[true, true, true, true, true, true, true, false, true, true, true, true, false, false, false, false] rfl rfl (by kernel_rfl) (fun _ _ _ h => h) (Or.inl ⟨by rfl, ?_⟩) hHeld ?_ ?_
      rotate_left
      · rintro w' ⟨s0, s1, s2⟩
        go_simp
        with_reducible rfl
      rotate_left
      · simp only [Act.put, List.setIfInBounds_toArray, List.set_cons_zero, List.set_cons_succ, i64_w, i32_w]
        rfl
      refine take_ (i := 7) (N := some 49) (v := ?_) (a' := ?_) #[true, true, true, true, true, true, true, true, true, true, true, true, false, false, false, false] rfl rfl (by kernel_rfl) (fun _ _ _ h => h) (Or.inl ⟨by rfl, ?_⟩) hHeld ?_ ?_
      rotate_left
      · rintro w' ⟨s0, s1, s2⟩
        go_simp
        with_reducible rfl
      rotate_left
      · simp only [Act.put, List.setIfInBounds_toArray, List.set_cons_zero, List.set_cons_succ, i64_w, i32_w]
        rfl
      refine take_ (i := 12) (N := some 54) (v := ?_) (a' := ?_) #[true, true, true, true, true, true, true, true, true, true, true, true, true, false, false, false] rfl rfl (by kernel_rfl) (fun _ _ _ h => h) (Or.inl ⟨by rfl, ?_⟩) hHeld ?_ ?_
      rotate_left
      · rintro w' ⟨s0, s1, s2⟩
        go_simp
        with_reducible rfl
      rotate_left
      · simp only [Act.put, List.setIfInBounds_toArray, List.set_cons_zero, List.set_cons_succ, i64_w, i32_w]
        rfl
      refine one_ (i := 13) (N := some 55) #[true, true, true, true, true, true, true, true, true, true, true, true, true, true, false, false] rfl rfl (by kernel_rfl) (by decide) (fun K hK => ?_)
      refine value_ (w1 := ?_) (v := ?_) (by rfl) rfl ?_ ?_
      rotate_left 2
      · go_simp
        constructor
        · rfl
        · rfl
      refine hK.out _ _ ⟨pw_cell_below (below_drew (below_alloc (Below.refl _ _) _)) Y3.out, pw_cell_below (below_drew (below_alloc (Below.refl _ _) _)) X2.out, pw_cell_below (below_drew (below_alloc (Below.refl _ _) _)) X1.out⟩ (fun hHeld => ?_)
      clear hK K
      refine norm_ (a' := ?_) ?_ ?_
      rotate_left
      · show Act.put _ (some 55) _ = _
        simp only [Act.put, List.setIfInBounds_toArray, List.set_cons_zero, List.set_cons_succ, i64_w, i32_w]
        rfl
      refine one_ (i := 14) (N := some 56) #[true, true, true, true, true, true, true, true, true, true, true, true, true, true, true, false] rfl rfl (by kernel_rfl) (by decide) (fun K hK => ?_)
      refine goes_ Tryd.func93 (by kernel_rfl) rfl #[.string t3, .slice (some ⟨w1.heap.size, 0, none⟩) 2 2] (by rfl) rfl rfl (by simp only [List.map_toArray, List.map_cons, List.map_nil]; rfl) ?_
      with_reducible refine (fill2R_any t3 y2 y1 w1 w1.heap.size rfl ST.out SZ.out _ FR.out (HG.out.below HB1.out)).mono ?_
      rintro e w33 ⟨rfl, hb33⟩
      refine ⟨_, rfl, ?_⟩
      have HQ3 := Aside0.mk hb33
      clear hb33
      refine hK.out _ _ ⟨pw_cell_below HQ3.out Y3.out, pw_cell_below HQ3.out X2.out, pw_cell_below HQ3.out X1.out⟩ (fun hHeld => ?_)
      clear hK K
      refine norm_ (a' := ?_) ?_ ?_
      rotate_left
      · show Act.put _ (some 56) _ = _
        simp only [Act.put, List.setIfInBounds_toArray, List.set_cons_zero, List.set_cons_succ, i64_w, i32_w]
        rfl
      refine pure_ (i := 15) (N := some 13) (v := ?_) (a' := ?_) #[true, true, true, true, true, true, true, true, true, true, true, true, true, true, true, true] rfl rfl (by kernel_rfl) (fun _ _ _ h => h) (Or.inl ⟨by rfl, ?_⟩) ?_ ?_
      rotate_left
      · intro w'
        go_simp
        with_reducible rfl
      rotate_left
      · simp only [Act.put, List.setIfInBounds_toArray, List.set_cons_zero, List.set_cons_succ, i64_w, i32_w]
        rfl
      refine done_ (by kernel_rfl) ?_
      clear SZ e1 e2 l1 l2
      have W0 : Aside0 (s0.size ≤ weigh 1) := ⟨by rw [← FR.out]; exact SZ1.out⟩
      have HB3 := Aside0.mk (below_step HB1.out HQ3.out)
      clear SZ1 ST FR hHeld
      go_wp2_with fail
      go_loopw [13, 14] (fun v i wr => ∃ (j : Nat) (s : ByteArray), j ≤ nl - 3 ∧ v = .string s ∧ i = .int .i64 j ∧ Aside0 (midJ l t2 j s = midJ l t2 (nl - 3) s0) ∧ Aside0 (s.size ≤ weigh (nl - 2 - j)) ∧ Aside0 (Below w1.heap.size w1 wr)) (fun _ i _ => (intOf i).toNat)
      case atStart => exact ⟨nl - 3, s0, Nat.le_refl _, rfl, by first | go_num | (congr 1; omega), ⟨rfl⟩, ⟨by rw [show nl - 2 - (nl - 3) = 1 by omega]; exact W0.out⟩, HQ3⟩
      case round =>
        obtain ⟨i, s, hi, rfl, rfl, HM, HSz, HBr⟩ := hrel
        by_cases hp : 0 < i
        · have hpi : (0 : Int) < (i : Int) := by omega
          obtain ⟨q, rfl⟩ : ∃ q, i = q + 1 := ⟨i - 1, by omega⟩
          have hM := HM.out
          rw [midJ] at hM
          obtain ⟨i, hiq⟩ : ∃ i, i = q + 1 := ⟨_, rfl⟩
          rw [← hiq] at hM hi hp hpi HSz ⊢
          obtain ⟨yi, hyi⟩ : ∃ x, x = l.getD i eB := ⟨_, rfl⟩
          rw [← hyi] at hM
          have Xi : Aside0 (wr.cell? ⟨bk, o + i, none⟩ = some (.string yi)) := ⟨by rw [hyi]; exact pw_cell_below HBr.out (HCs.out i (by omega))⟩
          have Z2 := Aside0.mk (pw_cell_below HBr.out Y2.out)
          have Qi : Aside0 (yi.size ≤ 30) := ⟨by rw [hyi]; exact H30'.out _ (by omega)⟩
          have ST := S2
          obtain ⟨s2, hs2⟩ : ∃ x, fillX [yi, s] t2 = x := ⟨_, rfl⟩
          rw [hs2] at hM
          have FR := Aside0.mk hs2
          have SZ1 : Aside0 ((fillX [yi, s] t2).size ≤ weigh (nl - 2 - i + 1)) := ⟨fillX_le S2.out (by intro x hx; rcases List.mem_cons.1 hx with rfl | hx; exact Nat.le_trans Qi.out (weigh_low _); rcases List.mem_cons.1 hx with rfl | hx; exact HSz.out; cases hx)⟩
          have SZ : Aside0 ((fillX [yi, s] t2).size ≤ 140737488355328) := ⟨Nat.le_trans SZ1.out (weigh_most (by omega))⟩
          have HM2 := Aside0.mk hM
          have Hiq := Aside0.mk hiq
          have hil : (i : Int) < (nl : Int) := by omega
          have hi0 : (0 : Int) ≤ (i : Int) := by omega
          clear hM hyi hs2 hiq
          go_wp2_with fail
          refine start_ (n := 11) (S := fun w' => w'.cell? ⟨bk5, o5 + 2, none⟩ = some (.string t2) ∧ w'.cell? ⟨bk, o + i, none⟩ = some (.string yi)) (ds := []) #[false, false, false, false, false, false, false, false, false, false, false] (by kernel_rfl) rfl rfl ⟨pw_cell_below (below_drew (Below.refl _ _)) Z2.out, pw_cell_below (below_drew (Below.refl _ _)) Xi.out⟩ (fun hHeld => ?_)
          refine pure_ (i := 0) (N := some 63) (v := ?_) (a' := ?_) #[true, false, false, false, false, false, false, false, false, false, false] rfl rfl (by kernel_rfl) (fun _ _ _ h => h) (Or.inl ⟨by rfl, ?_⟩) ?_ ?_
          rotate_left
          · intro w'
            go_simp
            with_reducible rfl
          rotate_left
          · simp only [Act.put, List.setIfInBounds_toArray, List.set_cons_zero, List.set_cons_succ, i64_w, i32_w]
            rfl
          refine pure_ (i := 1) (N := some 64) (v := ?_) (a' := ?_) #[true, true, false, false, false, false, false, false, false, false, false] rfl rfl (by kernel_rfl) (fun _ _ _ h => h) (Or.inl ⟨by rfl, ?_⟩) ?_ ?_
          rotate_left
          · intro w'
            go_simp
            with_reducible rfl
          rotate_left
          · simp only [Act.put, List.setIfInBounds_toArray, List.set_cons_zero, List.set_cons_succ, i64_w, i32_w]
            rfl
          refine pure_ (i := 3) (N := some 66) (v := ?_) (a' := ?_) #[true, true, false, true, false, false, false, false, false, false, false] rfl rfl (by kernel_rfl) (fun _ _ _ h => h) (Or.inl ⟨by rfl, ?_⟩) ?_ ?_
          rotate_left
          · intro w'
            go_simp
            with_reducible rfl
          rotate_left
          · simp only [Act.put, List.setIfInBounds_toArray, List.set_cons_zero, List.set_cons_succ, i64_w, i32_w]
            rfl
          refine pure_ (i := 4) (N := some 67) (v := ?_) (a' := ?_) #[true, true, false, true, true, false, false, false, false, false, false] rfl rfl (by kernel_rfl) (fun _ _ _ h => h) (Or.inl ⟨by rfl, ?_⟩) ?_ ?_
          rotate_left
          · intro w'
            go_simp
            with_reducible rfl
          rotate_left
          · simp only [Act.put, List.setIfInBounds_toArray, List.set_cons_zero, List.set_cons_succ, i64_w, i32_w]
            rfl
          refine pure_ (i := 5) (N := some 68) (v := ?_) (a' := ?_) #[true, true, false, true, true, true, false, false, false, false, false] rfl rfl (by kernel_rfl) (fun _ _ _ h => h) (Or.inl ⟨by rfl, ?_⟩) ?_ ?_
          rotate_left
          · intro w'
            go_simp
            with_reducible rfl
          rotate_left
          · simp only [Act.put, List.setIfInBounds_toArray, List.set_cons_zero, List.set_cons_succ, i64_w, i32_w]
            rfl
          refine pure_ (i := 7) (N := some 70) (v := ?_) (a' := ?_) #[true, true, false, true, true, true, false, true, false, false, false] rfl rfl (by kernel_rfl) (fun _ _ _ h => h) (Or.inl ⟨by rfl, ?_⟩) ?_ ?_
          rotate_left
          · intro w'
            go_simp
            with_reducible rfl
          rotate_left
          · simp only [Act.put, List.setIfInBounds_toArray, List.set_cons_zero, List.set_cons_succ, i64_w, i32_w]
            rfl
          refine take_ (i := 2) (N := some 65) (v := ?_) (a' := ?_) #[true, true, true, true, true, true, false, true, false, false, false] rfl rfl (by kernel_rfl) (fun _ _ _ h => h) (Or.inl ⟨by rfl, ?_⟩) hHeld ?_ ?_
          rotate_left
          · rintro w' ⟨s0, s1⟩
            go_simp
            with_reducible rfl
          rotate_left
          · simp only [Act.put, List.setIfInBounds_toArray, List.set_cons_zero, List.set_cons_succ, i64_w, i32_w]
            rfl
          refine take_ (i := 6) (N := some 69) (v := ?_) (a' := ?_) #[true, true, true, true, true, true, true, true, false, false, false] rfl rfl (by kernel_rfl) (fun _ _ _ h => h) (Or.inl ⟨by rfl, ?_⟩) hHeld ?_ ?_
          rotate_left
          · rintro w' ⟨s0, s1⟩
            go_simp
            with_reducible rfl
          rotate_left
          · simp only [Act.put, List.setIfInBounds_toArray, List.set_cons_zero, List.set_cons_succ, i64_w, i32_w]
            rfl
          refine one_ (i := 8) (N := some 71) #[true, true, true, true, true, true, true, true, true, false, false] rfl rfl (by kernel_rfl) (by decide) (fun K hK => ?_)
          refine value_ (w1 := ?_) (v := ?_) (by rfl) rfl ?_ ?_
          rotate_left 2
          · go_simp
            constructor
            · rfl
            · rfl
          refine hK.out _ _ ⟨pw_cell_below (below_drew (below_alloc (Below.refl _ _) _)) Z2.out, pw_cell_below (below_drew (below_alloc (Below.refl _ _) _)) Xi.out⟩ (fun hHeld => ?_)
          clear hK K
          refine norm_ (a' := ?_) ?_ ?_
          rotate_left
          · show Act.put _ (some 71) _ = _
            simp only [Act.put, List.setIfInBounds_toArray, List.set_cons_zero, List.set_cons_succ, i64_w, i32_w]
            rfl
          refine one_ (i := 9) (N := some 72) #[true, true, true, true, true, true, true, true, true, true, false] rfl rfl (by kernel_rfl) (by decide) (fun K hK => ?_)
          refine goes_ Tryd.func93 (by kernel_rfl) rfl #[.string t2, .slice (some ⟨wr.heap.size, 0, none⟩) 2 2] (by rfl) rfl rfl (by simp only [List.map_toArray, List.map_cons, List.map_nil]; rfl) ?_
          with_reducible refine (fill2R_any t2 yi s wr wr.heap.size rfl ST.out SZ.out _ FR.out (HG.out.below (below_step HB1.out HBr.out))).mono ?_
          rintro e w33 ⟨rfl, hb33⟩
          refine ⟨_, rfl, ?_⟩
          have HQ3 := Aside0.mk hb33
          clear hb33
          refine hK.out _ _ ⟨pw_cell_below HQ3.out Z2.out, pw_cell_below HQ3.out Xi.out⟩ (fun hHeld => ?_)
          clear hK K
          refine norm_ (a' := ?_) ?_ ?_
          rotate_left
          · show Act.put _ (some 72) _ = _
            simp only [Act.put, List.setIfInBounds_toArray, List.set_cons_zero, List.set_cons_succ, i64_w, i32_w]
            rfl
          refine pure_ (i := 10) (N := some 13) (v := ?_) (a' := ?_) #[true, true, true, true, true, true, true, true, true, true, true] rfl rfl (by kernel_rfl) (fun _ _ _ h => h) (Or.inl ⟨by rfl, ?_⟩) ?_ ?_
          rotate_left
          · intro w'
            go_simp
            with_reducible rfl
          rotate_left
          · simp only [Act.put, List.setIfInBounds_toArray, List.set_cons_zero, List.set_cons_succ, i64_w, i32_w]
            rfl
          refine done_ (by kernel_rfl) ?_
          have HBq := Aside0.mk (below_step HBr.out HQ3.out)
          have W2 : Aside0 (s2.size ≤ weigh (nl - 2 - q)) := ⟨by rw [← FR.out, show nl - 2 - q = nl - 2 - i + 1 by have := Hiq.out; omega]; exact SZ1.out⟩
          have hiq := Hiq.out
          clear SZ SZ1 FR hHeld HQ3
          go_wp2_with fail
          exact ⟨⟨q, s2, by omega, rfl, rfl, HM2, W2, HBq⟩, by simp [intOf]; omega⟩
        · obtain rfl : i = 0 := by omega
          have hM := HM.out
          rw [midJ] at hM
          have hR := HR3.out
          rw [← hM] at hR
          clear hM
          have X0 := Aside0.mk (pw_cell_below HBr.out X00.out)
          have Z1 := Aside0.mk (pw_cell_below HBr.out Y1.out)
          have ST := S1
          obtain ⟨s2, hs2⟩ : ∃ x, fillX [y0, s] t1 = x := ⟨_, rfl⟩
          have FR := Aside0.mk hs2
          rw [hs2] at hR
          have HR4 := Aside0.mk hR
          have SZ : Aside0 ((fillX [y0, s] t1).size ≤ 140737488355328) := ⟨Nat.le_trans (fillX_le S1.out (j := nl - 2) (by intro x hx; rcases List.mem_cons.1 hx with rfl | hx; exact Nat.le_trans Q0.out (weigh_low _); rcases List.mem_cons.1 hx with rfl | hx; exact HSz.out; cases hx)) (weigh_most (by omega))⟩
          clear hs2 hR
          have hn0 : 0 < nl := by omega
          go_wp2_with fail
          refine start_ (n := 11) (S := fun w' => w'.cell? ⟨bk5, o5 + 1, none⟩ = some (.string t1) ∧ w'.cell? ⟨bk, o, none⟩ = some (.string y0)) (ds := []) #[false, false, false, false, false, false, false, false, false, false, false] (by kernel_rfl) rfl rfl ⟨pw_cell_below (below_drew (Below.refl _ _)) Z1.out, pw_cell_below (below_drew (Below.refl _ _)) X0.out⟩ (fun hHeld => ?_)
          refine pure_ (i := 0) (N := some 73) (v := ?_) (a' := ?_) #[true, false, false, false, false, false, false, false, false, false, false] rfl rfl (by kernel_rfl) (fun _ _ _ h => h) (Or.inl ⟨by rfl, ?_⟩) ?_ ?_
          rotate_left
          · intro w'
            go_simp
            with_reducible rfl
          rotate_left
          · simp only [Act.put, List.setIfInBounds_toArray, List.set_cons_zero, List.set_cons_succ, i64_w, i32_w]
            rfl
          refine pure_ (i := 1) (N := some 74) (v := ?_) (a' := ?_) #[true, true, false, false, false, false, false, false, false, false, false] rfl rfl (by kernel_rfl) (fun _ _ _ h => h) (Or.inl ⟨by rfl, ?_⟩) ?_ ?_
          rotate_left
          · intro w'
            go_simp
            with_reducible rfl
          rotate_left
          · simp only [Act.put, List.setIfInBounds_toArray, List.set_cons_zero, List.set_cons_succ, i64_w, i32_w]
            rfl
          refine pure_ (i := 3) (N := some 76) (v := ?_) (a' := ?_) #[true, true, false, true, false, false, false, false, false, false, false] rfl rfl (by kernel_rfl) (fun _ _ _ h => h) (Or.inl ⟨by rfl, ?_⟩) ?_ ?_
          rotate_left
          · intro w'
            go_simp
            with_reducible rfl
          rotate_left
          · simp only [Act.put, List.setIfInBounds_toArray, List.set_cons_zero, List.set_cons_succ, i64_w, i32_w]
            rfl
          refine pure_ (i := 4) (N := some 77) (v := ?_) (a' := ?_) #[true, true, false, true, true, false, false, false, false, false, false] rfl rfl (by kernel_rfl) (fun _ _ _ h => h) (Or.inl ⟨by rfl, ?_⟩) ?_ ?_
          rotate_left
          · intro w'
            go_simp
            with_reducible rfl
          rotate_left
          · simp only [Act.put, List.setIfInBounds_toArray, List.set_cons_zero, List.set_cons_succ, i64_w, i32_w]
            rfl
          refine pure_ (i := 6) (N := some 79) (v := ?_) (a' := ?_) #[true, true, false, true, true, false, true, false, false, false, false] rfl rfl (by kernel_rfl) (fun _ _ _ h => h) (Or.inl ⟨by rfl, ?_⟩) ?_ ?_
          rotate_left
          · intro w'
            go_simp
            with_reducible rfl
          rotate_left
          · simp only [Act.put, List.setIfInBounds_toArray, List.set_cons_zero, List.set_cons_succ, i64_w, i32_w]
            rfl
          refine take_ (i := 2) (N := some 75) (v := ?_) (a' := ?_) #[true, true, true, true, true, false, true, false, false, false, false] rfl rfl (by kernel_rfl) (fun _ _ _ h => h) (Or.inl ⟨by rfl, ?_⟩) hHeld ?_ ?_
          rotate_left
          · rintro w' ⟨s0, s1⟩
            go_simp
            with_reducible rfl
          rotate_left
          · simp only [Act.put, List.setIfInBounds_toArray, List.set_cons_zero, List.set_cons_succ, i64_w, i32_w]
            rfl
          refine take_ (i := 5) (N := some 78) (v := ?_) (a' := ?_) #[true, true, true, true, true, true, true, false, false, false, false] rfl rfl (by kernel_rfl) (fun _ _ _ h => h) (Or.inl ⟨by rfl, ?_⟩) hHeld ?_ ?_
          rotate_left
          · rintro w' ⟨s0, s1⟩
            go_simp
            with_reducible rfl
          rotate_left
          · simp only [Act.put, List.setIfInBounds_toArray, List.set_cons_zero, List.set_cons_succ, i64_w, i32_w]
            rfl
          refine one_ (i := 7) (N := some 80) #[true, true, true, true, true, true, true, true, false, false, false] rfl rfl (by kernel_rfl) (by decide) (fun K hK => ?_)
          refine value_ (w1 := ?_) (v := ?_) (by rfl) rfl ?_ ?_
          rotate_left 2
          · go_simp
            constructor
            · rfl
            · rfl
          refine hK.out _ _ ⟨pw_cell_below (below_drew (below_alloc (Below.refl _ _) _)) Z1.out, pw_cell_below (below_drew (below_alloc (Below.refl _ _) _)) X0.out⟩ (fun hHeld => ?_)
          clear hK K
          refine norm_ (a' := ?_) ?_ ?_
          rotate_left
          · show Act.put _ (some 80) _ = _
            simp only [Act.put, List.setIfInBounds_toArray, List.set_cons_zero, List.set_cons_succ, i64_w, i32_w]
            rfl
          refine one_ (i := 8) (N := some 81) #[true, true, true, true, true, true, true, true, true, false, false] rfl rfl (by kernel_rfl) (by decide) (fun K hK => ?_)
          refine goes_ Tryd.func93 (by kernel_rfl) rfl #[.string t1, .slice (some ⟨wr.heap.size, 0, none⟩) 2 2] (by rfl) rfl rfl (by simp only [List.map_toArray, List.map_cons, List.map_nil]; rfl) ?_
          with_reducible refine (fill2R_any t1 y0 s wr wr.heap.size rfl ST.out SZ.out _ FR.out (HG.out.below (below_step HB1.out HBr.out))).mono ?_
          rintro e w33 ⟨rfl, hb33⟩
          refine ⟨_, rfl, ?_⟩
          have HQ3 := Aside0.mk hb33
          clear hb33
          refine hK.out _ _ ⟨pw_cell_below HQ3.out Z1.out, pw_cell_below HQ3.out X0.out⟩ (fun hHeld => ?_)
          clear hK K
          refine norm_ (a' := ?_) ?_ ?_
          rotate_left
          · show Act.put _ (some 81) _ = _
            simp only [Act.put, List.setIfInBounds_toArray, List.set_cons_zero, List.set_cons_succ, i64_w, i32_w]
            rfl
          refine pure_ (i := 9) (N := some 8) (v := ?_) (a' := ?_) #[true, true, true, true, true, true, true, true, true, true, false] rfl rfl (by kernel_rfl) (fun _ _ _ h => h) (Or.inl ⟨by rfl, ?_⟩) ?_ ?_
          rotate_left
          · intro w'
            go_simp
            with_reducible rfl
          rotate_left
          · simp only [Act.put, List.setIfInBounds_toArray, List.set_cons_zero, List.set_cons_succ, i64_w, i32_w]
            rfl
          refine pure_ (i := 10) (N := some 9) (v := ?_) (a' := ?_) #[true, true, true, true, true, true, true, true, true, true, true] rfl rfl (by kernel_rfl) (fun _ _ _ h => h) (Or.inl ⟨by rfl, ?_⟩) ?_ ?_
          rotate_left
          · intro w'
            go_simp
            with_reducible rfl
          rotate_left
          · simp only [Act.put, List.setIfInBounds_toArray, List.set_cons_zero, List.set_cons_succ, i64_w, i32_w]
            rfl
          refine done_ (by kernel_rfl) ?_
          have HBq := Aside0.mk (below_step HBr.out HQ3.out)
          clear SZ FR hHeld HQ3
          go_wp2_with fail
          go_ret2
          obtain ⟨rfl, rfl⟩ := Prod.mk.inj HR4.out
          exact ⟨rfl, below_step HB1.out HBq.out⟩
end Go.Proofs.YthefdpioaapomaaDoor.Pj
namespace Go.Proofs.YthefdpioaapomaaDoor.Pj
set_option linter.unusedVariables false
set_option linter.unusedSimpArgs false
open Go.RowKit Go.Proofs.YthefdpioaapomaaDoorW.PrintWords Go.Proofs.YthefdpioaapomaaDoorW.PrintLast Go.Proofs.YthefdpioaapomaaDoor.Ext Go.Proofs.YthefdpioaapomaaDoorW.PrintMore Go.Proofs.YthefdpioaapomaaDoor.PA

def to36 (x : S31) : S36 := ⟨x.f0, x.f1⟩
/-- A row's words that came in lead to blocks that came in. -/
theorem words_F {w W : World} (hb : Below w.heap.size w W) {A : Option Addr} {n : Nat} {xs : List ByteArray} (h : Kd.C Kd.string w A n xs) : Kd.F Kd.string W (fun k => k < w.heap.size) A n xs :=
  Kd.F_mono (Kd.F_old (Kd.C_F Kd.heap_string h) hb) (fun k hk => hk.2)
set_option maxHeartbeats 4000000 in
set_option maxRecDepth 100000 in
theorem rowsOf25_any (A : Option Addr) (c : Nat) (l : List S31) (w : World) (hC : Kd.C k31 w A l.length l) (hc : l.length ≤ c) (hl : l.length ≤ 1000) :
    Calls Tryd.prog 61 #[.slice A l.length c] w fun e w' => (∃ A' c', e = .returned (.slice A' l.length c') ∧ l.length ≤ c' ∧ Kd.C k36 w' A' l.length (l.map to36)) ∧ Below w.heap.size w w' := by
  have HC := Aside0.mk hC
  clear hC
  go_enter Tryd.func61, Tryd.ntmps61
  go_wp2_with fail
  go_loopw [3, 4] (fun v i wr => ∃ (j : Nat), j ≤ l.length ∧ i = .int .i64 j ∧ Aside0 (Kd.N k36 36 wr w.heap.size (fun _ => True) v ((l.take j).map to36)) ∧ Aside0 (Below w.heap.size w wr)) (fun _ i _ => l.length - (intOf i).toNat)
  case atStart => exact ⟨0, Nat.zero_le _, rfl, ⟨Kd.N_nil _ _ _ _ _⟩, ⟨Below.refl _ _⟩⟩
  case round =>
    obtain ⟨j, hj, rfl, HN, HB⟩ := hrel
    rename_i wr
    by_cases hlt : j < l.length
    case neg =>
      obtain rfl : l.length = j := by omega
      have hN := HN.out
      rw [List.take_length] at hN
      obtain ⟨A1, c1, rfl, hc1, hC1⟩ := Kd.N_reads hN
      rw [List.length_map] at hc1 hC1 ⊢
      have HC1 := Aside0.mk hC1
      clear hN hC1
      go_wp2_with fail
      go_ret
      exact ⟨⟨A1, c1, rfl, hc1, HC1.out⟩, HB.out⟩
    have hrd : rd_T31 l (j : Int) = l[j] := by simp [rd_T31, hlt]
    obtain ⟨ad, A1, c1, hA, hx0, hx1, hc1, hCr⟩ := at_T31 HC.out (j : Int) (by omega) (by omega)
    rw [hrd] at hx0 hx1 hc1 hCr
    rw [Int.toNat_natCast] at hx0 hx1
    have htk : (l.take j).map to36 ++ [to36 l[j]] = (l.take (j + 1)).map to36 := by rw [List.take_succ_eq_append_getElem hlt, List.map_append]; rfl
    generalize l[j] = row at hx0 hx1 hc1 hCr htk
    obtain ⟨f0, f1⟩ := row
    dsimp only at hx0 hx1 hc1 hCr
    subst hA
    have HX0 := Aside0.mk (pw_cell_below HB.out hx0)
    have HX1 := Aside0.mk (pw_cell_below HB.out hx1)
    have HF := Aside0.mk (k36_mkF wr.drew (fun k => k < w.heap.size) ⟨f0, f1⟩ hc1 (words_F (below_drew HB.out) hCr))
    have HTk := Aside0.mk htk
    have hlen : ((l.take j).map to36).length = j := by rw [List.length_map, List.length_take]; omega
    have HLn := Aside0.mk hlen
    have b0 : (0 : Int) ≤ (j : Int) := by omega
    clear hrd hx0 hx1 hCr htk hlen
    obtain ⟨nl, hnl⟩ : ∃ m, m = f1.length := ⟨_, rfl⟩
    have HX1' : Aside0 (wr.cell? ⟨(ad.add (j * 2)).block, (ad.add (j * 2)).off + 1, none⟩ = some (.slice A1 nl c1)) := ⟨by rw [hnl]; exact HX1.out⟩
    have HF' : Aside0 (Kd.FK k36 wr.drew (fun k => k < w.heap.size) ⟨f0, f1⟩ [.int .i64 f0, .slice A1 nl c1]) := ⟨by rw [hnl]; exact HF.out⟩
    clear hnl hc1
    go_wp2_with fail
    refine start_ (n := 15) (S := fun w' => w'.cell? (ad.add (j * 2)) = some (.int .i64 f0) ∧ w'.cell? ⟨(ad.add (j * 2)).block, (ad.add (j * 2)).off + 1, none⟩ = some (.slice A1 nl c1)) (ds := [13]) #[false, false, false, false, false, false, false, false, false, false, false, false, false, false, false] (by kernel_rfl) rfl rfl ⟨pw_cell_below (below_drew (Below.refl _ _)) HX0.out, pw_cell_below (below_drew (Below.refl _ _)) HX1'.out⟩ (fun hHeld => ?_)
    refine pure_ (i := 0) (N := some 11) (v := ?_) (a' := ?_) #[true, false, false, false, false, false, false, false, false, false, false, false, false, false, false] rfl rfl (by kernel_rfl) (fun _ _ _ h => h) (Or.inl ⟨by rfl, ?_⟩) ?_ ?_
    rotate_left
    · intro w'
      go_simp
      with_reducible rfl
    rotate_left
    · simp only [Act.put, List.setIfInBounds_toArray, List.set_cons_zero, List.set_cons_succ, i64_w, i32_w]
      rfl
    refine pure_ (i := 1) (N := some 12) (v := ?_) (a' := ?_) #[true, true, false, false, false, false, false, false, false, false, false, false, false, false, false] rfl rfl (by kernel_rfl) (fun _ _ _ h => h) (Or.inl ⟨by rfl, ?_⟩) ?_ ?_
    rotate_left
    · intro w'
      go_simp
      with_reducible rfl
    rotate_left
    · simp only [Act.put, List.setIfInBounds_toArray, List.set_cons_zero, List.set_cons_succ, i64_w, i32_w]
      rfl
    refine pure_ (i := 2) (N := some 13) (v := ?_) (a' := ?_) #[true, true, true, false, false, false, false, false, false, false, false, false, false, false, false] rfl rfl (by kernel_rfl) (fun _ _ _ h => h) (Or.inl ⟨by rfl, ?_⟩) ?_ ?_
    rotate_left
    · intro w'
      go_simp
      with_reducible rfl
    rotate_left
    · simp only [Act.put, List.setIfInBounds_toArray, List.set_cons_zero, List.set_cons_succ, i64_w, i32_w]
      rfl
    refine pure_ (i := 3) (N := some 14) (v := ?_) (a' := ?_) #[true, true, true, true, false, false, false, false, false, false, false, false, false, false, false] rfl rfl (by kernel_rfl) (fun _ _ _ h => h) (Or.inl ⟨by rfl, ?_⟩) ?_ ?_
    rotate_left
    · intro w'
      go_simp
      with_reducible rfl
    rotate_left
    · simp only [Act.put, List.setIfInBounds_toArray, List.set_cons_zero, List.set_cons_succ, i64_w, i32_w]
      rfl
    refine pure_ (i := 4) (N := some 15) (v := ?_) (a' := ?_) #[true, true, true, true, true, false, false, false, false, false, false, false, false, false, false] rfl rfl (by kernel_rfl) (fun _ _ _ h => h) (Or.inl ⟨by rfl, ?_⟩) ?_ ?_
    rotate_left
    · intro w'
      go_simp
      with_reducible rfl
    rotate_left
    · simp only [Act.put, List.setIfInBounds_toArray, List.set_cons_zero, List.set_cons_succ, i64_w, i32_w]
      rfl
    refine pure_ (i := 6) (N := some 17) (v := ?_) (a' := ?_) #[true, true, true, true, true, false, true, false, false, false, false, false, false, false, false] rfl rfl (by kernel_rfl) (fun _ _ _ h => h) (Or.inl ⟨by rfl, ?_⟩) ?_ ?_
    rotate_left
    · intro w'
      go_simp
      with_reducible rfl
    rotate_left
    · simp only [Act.put, List.setIfInBounds_toArray, List.set_cons_zero, List.set_cons_succ, i64_w, i32_w]
      rfl
    refine pure_ (i := 7) (N := some 18) (v := ?_) (a' := ?_) #[true, true, true, true, true, false, true, true, false, false, false, false, false, false, false] rfl rfl (by kernel_rfl) (fun _ _ _ h => h) (Or.inl ⟨by rfl, ?_⟩) ?_ ?_
    rotate_left
    · intro w'
      go_simp
      with_reducible rfl
    rotate_left
    · simp only [Act.put, List.setIfInBounds_toArray, List.set_cons_zero, List.set_cons_succ, i64_w, i32_w]
      rfl
    refine pure_ (i := 8) (N := some 19) (v := ?_) (a' := ?_) #[true, true, true, true, true, false, true, true, true, false, false, false, false, false, false] rfl rfl (by kernel_rfl) (fun _ _ _ h => h) (Or.inl ⟨by rfl, ?_⟩) ?_ ?_
    rotate_left
    · intro w'
      go_simp
      with_reducible rfl
    rotate_left
    · simp only [Act.put, List.setIfInBounds_toArray, List.set_cons_zero, List.set_cons_succ, i64_w, i32_w]
      rfl
    refine pure_ (i := 9) (N := some 20) (v := ?_) (a' := ?_) #[true, true, true, true, true, false, true, true, true, true, false, false, false, false, false] rfl rfl (by kernel_rfl) (fun _ _ _ h => h) (Or.inl ⟨by rfl, ?_⟩) ?_ ?_
    rotate_left
    · intro w'
      go_simp
      with_reducible rfl
    rotate_left
    · simp only [Act.put, List.setIfInBounds_toArray, List.set_cons_zero, List.set_cons_succ, i64_w, i32_w]
      rfl
    refine take_ (i := 5) (N := some 16) (v := ?_) (a' := ?_) #[true, true, true, true, true, true, true, true, true, true, false, false, false, false, false] rfl rfl (by kernel_rfl) (fun _ _ _ h => h) (Or.inl ⟨by rfl, ?_⟩) hHeld ?_ ?_
    rotate_left
    · rintro w' ⟨s0, s1⟩
      go_simp
      with_reducible rfl
    rotate_left
    · simp only [Act.put, List.setIfInBounds_toArray, List.set_cons_zero, List.set_cons_succ, i64_w, i32_w]
      rfl
    refine take_ (i := 10) (N := some 21) (v := ?_) (a' := ?_) #[true, true, true, true, true, true, true, true, true, true, true, false, false, false, false] rfl rfl (by kernel_rfl) (fun _ _ _ h => h) (Or.inl ⟨by rfl, ?_⟩) hHeld ?_ ?_
    rotate_left
    · rintro w' ⟨s0, s1⟩
      go_simp
      with_reducible rfl
    rotate_left
    · simp only [Act.put, List.setIfInBounds_toArray, List.set_cons_zero, List.set_cons_succ, i64_w, i32_w]
      rfl
    refine pure_ (i := 11) (N := some 22) (v := ?_) (a' := ?_) #[true, true, true, true, true, true, true, true, true, true, true, true, false, false, false] rfl rfl (by kernel_rfl) (fun _ _ _ h => h) (Or.inl ⟨by rfl, ?_⟩) ?_ ?_
    rotate_left
    · intro w'
      go_simp
      with_reducible rfl
    rotate_left
    · simp only [Act.put, List.setIfInBounds_toArray, List.set_cons_zero, List.set_cons_succ, i64_w, i32_w]
      rfl
    refine one_ (i := 12) (N := some 23) #[true, true, true, true, true, true, true, true, true, true, true, true, true, false, false] rfl rfl (by kernel_rfl) (by decide) (fun K hK => ?_)
    refine value_ (w1 := ?_) (v := ?_) (by rfl) rfl ?_ ?_
    rotate_left 2
    · go_simp
      constructor
      · rfl
      · rfl
    refine hK.out _ _ ⟨pw_cell_below (below_alloc (below_drew (Below.refl _ _)) _) HX0.out, pw_cell_below (below_alloc (below_drew (Below.refl _ _)) _) HX1'.out⟩ (fun hHeld => ?_)
    clear hK K
    refine norm_ (a' := ?_) ?_ ?_
    rotate_left
    · show Act.put _ (some 23) _ = _
      simp only [Act.put, List.setIfInBounds_toArray, List.set_cons_zero, List.set_cons_succ, i64_w, i32_w]
      rfl
    refine last_ (i := 13) (N := some 24) #[true, true, true, true, true, true, true, true, true, true, true, true, true, true, false] rfl rfl (by kernel_rfl) (by decide) (fun K hK => ?_)
    refine Kd.N_append_step k36 (w0 := w) (W := wr.drew) w.heap.size (by rfl) (.tmp 11) (.tmp 23) 37 36 (.agg #[(.int .i64 0), (.slice none 0 0)]) 32 rfl Tryd.underlying37 info36 rfl (by decide) (by omega) u3 ((l.take j).map to36) (⟨f0, f1⟩ : S36) [.int .i64 f0, .slice A1 nl c1] (fun _ => True) (fun k => k < w.heap.size) (by rfl) (by rfl) HF'.out (fun k hk => ⟨trivial, fun he => by have := Kd.N_base HN.out k he.symm; omega⟩) (fun _ _ => trivial) (Kd.N_drew HN.out) (below_drew HB.out) (below_size (below_drew HB.out)) (by rw [HLn.out]; omega) ?_
    intro v2 w2 ho2 hb2 hg2 hn2
    have HN2 := Aside0.mk ho2
    have HB2 := Aside0.mk hb2
    clear ho2 hb2 hg2 hn2
    refine hK.out _ _ ?_
    clear hK K
    refine norm_ (a' := ?_) ?_ ?_
    rotate_left
    · show Act.put _ (some 24) _ = _
      simp only [Act.put, List.setIfInBounds_toArray, List.set_cons_zero, List.set_cons_succ, i64_w, i32_w]
      rfl
    refine pure_ (i := 14) (N := some 3) (v := ?_) (a' := ?_) #[true, true, true, true, true, true, true, true, true, true, true, true, true, true, true] rfl rfl (by kernel_rfl) (fun _ _ _ h => h) (Or.inl ⟨by rfl, ?_⟩) ?_ ?_
    rotate_left
    · intro w'
      go_simp
      with_reducible rfl
    rotate_left
    · simp only [Act.put, List.setIfInBounds_toArray, List.set_cons_zero, List.set_cons_succ, i64_w, i32_w]
      rfl
    refine done_ (by kernel_rfl) ?_
    go_wp2_with fail
    exact ⟨⟨j + 1, by omega, by go_num, ⟨by rw [← HTk.out]; exact HN2.out⟩, HB2⟩, by simp [intOf]; omega⟩
end Go.Proofs.YthefdpioaapomaaDoor.Pj
namespace Go.Proofs.YthefdpioaapomaaDoor.Pj
set_option linter.unusedVariables false
set_option linter.unusedSimpArgs false
open Go.RowKit Go.Proofs.YthefdpioaapomaaDoorW.PrintWords Go.Proofs.YthefdpioaapomaaDoorW.PrintLast Go.Proofs.YthefdpioaapomaaDoor.Ext Go.Proofs.YthefdpioaapomaaDoorW.PrintMore Go.Proofs.YthefdpioaapomaaDoor.PA Go.Proofs.YthefdpioaapomaaDoor.PJ Go.Proofs.YthefdpioaapomaaDoor.Pl Go.Proofs.YthefdpioaapomaaDoor.Pu7

abbrev bigW (s : ByteArray) : Bool := decide (120 < s.size)
abbrev bigR (r : S31) : Bool := decide (30 < r.f1.length) || r.f1.any bigW
def heavyB (l : List S31) : Bool := decide (60 < l.length) || l.any bigR
theorem heavyB_no {l : List S31} (h : heavyB l = false) : l.length ≤ 60 ∧ ∀ r ∈ l, r.f1.length ≤ 30 ∧ ∀ s ∈ r.f1, s.size ≤ 120 := by
  unfold heavyB at h
  rw [Bool.or_eq_false_iff] at h
  refine ⟨by have := of_decide_eq_false h.1; omega, fun r hr => ?_⟩
  have h1 := List.any_eq_false.1 h.2 r hr
  rw [Bool.not_eq_true, Bool.or_eq_false_iff] at h1
  refine ⟨by have := of_decide_eq_false h1.1; omega, fun s hs => ?_⟩
  have h2 := List.any_eq_false.1 h1.2 s hs
  rw [Bool.not_eq_true] at h2
  have := of_decide_eq_false h2
  omega
theorem heavy_in (l : List S31) (i : Nat) (hi : i < l.length) (hl : l.length ≤ 60) (hw : l[i].f1.length ≤ 30) (R : Bool) (hR : Ev (fun k => cubitlaw25_heavy.l0 k l ((i + 1 : Nat) : Int)) R) :
    ∀ (d j : Nat), j + d = l[i].f1.length → Ev (fun k => cubitlaw25_heavy.l1 k l (i : Int) (j : Int)) ((l[i].f1.drop j).any bigW || R) := by
  have hrd : rd_T31 l (i : Int) = l[i] := by simp [rd_T31, hi]
  intro d
  induction d with
  | zero =>
    intro j hj
    have : ((l[i].f1.drop j).any bigW || R) = R := by rw [List.drop_of_length_le (by omega)]; rfl
    rw [this]
    apply Ev.step (f := fun k => cubitlaw25_heavy.l0 k l ((i + 1 : Nat) : Int))
    · intro k
      simp only [cubitlaw25_heavy.l1]
      rw [if_pos (by omega), if_pos (by omega), hrd, if_neg (by omega), wrap_nat (by omega)]
    · exact hR
  | succ d ih =>
    intro j hj
    have hj' : j < l[i].f1.length := by omega
    have hro : rdOf ByteArray.empty l[i].f1 (j : Int) = l[i].f1[j] := by simp [rdOf, hj']
    rw [List.drop_eq_getElem_cons hj', List.any_cons]
    by_cases hb : 120 < (l[i].f1[j]).size
    · have : bigW (l[i].f1[j]) = true := decide_eq_true hb
      rw [this]
      apply Ev.step (f := fun _ => some true)
      · intro k
        simp only [cubitlaw25_heavy.l1]
        rw [if_pos (by omega), if_pos (by omega), hrd, if_pos (by omega), if_pos (by omega), hro, if_pos (by omega)]
      · exact Ev.now _
    · have : bigW (l[i].f1[j]) = false := decide_eq_false hb
      rw [this, Bool.false_or]
      apply Ev.step (f := fun k => cubitlaw25_heavy.l1 k l (i : Int) ((j + 1 : Nat) : Int))
      · intro k
        simp only [cubitlaw25_heavy.l1]
        rw [if_pos (by omega), if_pos (by omega), hrd, if_pos (by omega), if_pos (by omega), hro, if_neg (by omega), wrap_nat (by omega)]
      · exact ih (j + 1) (by omega)
theorem heavy_out (l : List S31) (hl : l.length ≤ 60) : ∀ (d i : Nat), i + d = l.length → Ev (fun k => cubitlaw25_heavy.l0 k l (i : Int)) ((l.drop i).any bigR) := by
  intro d
  induction d with
  | zero =>
    intro i hi
    rw [List.drop_of_length_le (by omega)]
    apply Ev.step (f := fun _ => some false)
    · intro k
      simp only [cubitlaw25_heavy.l0]
      rw [if_neg (by omega)]
    · exact Ev.now _
  | succ d ih =>
    intro i hi
    have hi' : i < l.length := by omega
    have hrd : rd_T31 l (i : Int) = l[i] := by simp [rd_T31, hi']
    rw [List.drop_eq_getElem_cons hi', List.any_cons]
    by_cases hw : 30 < l[i].f1.length
    · have : bigR l[i] = true := by unfold bigR; rw [decide_eq_true hw]; rfl
      rw [this]
      apply Ev.step (f := fun _ => some true)
      · intro k
        simp only [cubitlaw25_heavy.l0]
        rw [if_pos (by omega), if_pos (by omega), hrd, if_pos (by omega)]
      · exact Ev.now _
    · have : bigR l[i] = l[i].f1.any bigW := by unfold bigR; rw [decide_eq_false hw]; rfl
      rw [this]
      apply Ev.step (f := fun k => cubitlaw25_heavy.l1 k l (i : Int) ((0 : Nat) : Int))
      · intro k
        simp only [cubitlaw25_heavy.l0]
        rw [if_pos (by omega), if_pos (by omega), hrd, if_neg (by omega)]
        rfl
      · have := heavy_in l i hi' hl (by omega) _ (ih (i + 1) (by omega)) l[i].f1.length 0 (by omega)
        rwa [List.drop_zero] at this
theorem heavy_ev (l : List S31) : Ev (fun k => cubitlaw25_heavy.f k l) (heavyB l) := by
  by_cases h : 60 < l.length
  · have : heavyB l = true := by unfold heavyB; rw [decide_eq_true h]; rfl
    rw [this]
    refine Ev.congr (fun k => ?_) (Ev.now true)
    unfold cubitlaw25_heavy.f
    rw [if_pos (by omega)]
  · have : heavyB l = l.any bigR := by unfold heavyB; rw [decide_eq_false h]; rfl
    rw [this]
    have h0 := heavy_out l (by omega) l.length 0 (by omega)
    rw [List.drop_zero] at h0
    refine Ev.congr (fun k => ?_) h0
    unfold cubitlaw25_heavy.f
    rw [if_neg (by omega)]
    rfl
theorem heavy25_any (A : Option Addr) (c : Nat) (l : List S31) (w : World) (hC : Kd.C k31 w A l.length l) (hc : l.length ≤ c) (hG : Glob w) :
    Calls Tryd.prog 58 #[.slice A l.length c] w fun e w' => e = .returned (.bool (heavyB l)) ∧ Below w.heap.size w w' := by
  obtain ⟨k, hk⟩ := Ev.rounds (heavy_ev l)
  refine (cubitlaw25_heavy.calls k A c l (heavyB l) w hC hc hk hG).mono ?_
  rintro e w' ⟨rfl, ⟨n, rfl⟩⟩
  exact ⟨rfl, pw_below_drewN (Below.refl _ _) n⟩
theorem texts_loopS (l : List ByteArray) (hl : l.length < 1000000000000) : ∀ (d i : Nat), i + d = l.length → Ev (fun k => cubitlaw25_texts.l0 k l l (i : Int)) true
  | 0, i, hd => by
    apply Ev.step (f := fun _ => some true)
    · intro k
      simp only [cubitlaw25_texts.l0]
      rw [if_neg (by omega)]
    · exact Ev.now _
  | d + 1, i, hd => by
    apply Ev.step (f := fun k => cubitlaw25_texts.l0 k l l ((i + 1 : Nat) : Int))
    · intro k
      simp only [cubitlaw25_texts.l0]
      rw [if_pos (by omega), if_pos (by omega), if_pos (by omega), if_pos trivial, wrap_nat (by omega)]
    · exact texts_loopS l hl d (i + 1) (by omega)
theorem texts25_evS (l : List ByteArray) (hl : l.length < 1000000000000) : Ev (fun k => cubitlaw25_texts.f k l l) true := by
  refine Ev.congr (fun k => ?_) (texts_loopS l hl l.length 0 (by omega))
  unfold cubitlaw25_texts.f
  rw [if_pos rfl]
  rfl
theorem texts25_S (nl : Nat) (l : List ByteArray) (hn : nl = l.length) (hl : nl < 1000000) (A0 A1 : Option Addr) (c0 c1 : Nat) (w : World) (h0 : Kd.C Kd.string w A0 nl l) (hc0 : nl ≤ c0) (h1 : Kd.C Kd.string w A1 nl l) (hc1 : nl ≤ c1) (hG : Glob w) :
    Calls Tryd.prog 57 #[.slice A0 nl c0, .slice A1 nl c1] w fun e w' => e = .returned (.bool true) ∧ Below w.heap.size w w' := by
  subst hn
  obtain ⟨k, hk⟩ := Ev.rounds (texts25_evS l (by omega))
  refine (cubitlaw25_texts.calls k A0 c0 l A1 c1 l true w h0 hc0 h1 hc1 hk hG).mono ?_
  rintro e w' ⟨rfl, hd⟩
  exact ⟨rfl, by first | exact drawn_below hd | exact hd⟩
theorem of_loopS (c : Bs) (rs : List Row) (hl : rs.length < 1000000) (hw : ∀ r ∈ rs, r.ws.length < 1000000) : ∀ (d i : Nat) (out : List Row), i + d = rs.length → out.length ≤ i →
    Ev (fun k => rows_Of.l0 k (ofL c) (out.map t31) (rs.map t31) (rs.length : Int) (i : Int)) ((out ++ (rs.drop i).filter (isKind c)).map t31)
  | 0, i, out, hd, ho => by
    rw [List.drop_of_length_le (by omega)]
    refine Ev.step (f := fun _ => some ((out ++ ([] : List Row).filter (isKind c)).map t31)) (fun k => ?_) (Ev.now _)
    simp only [rows_Of.l0]
    rw [if_neg (by omega)]
    simp
  | d + 1, i, out, hd, ho => by
    have hi : i < rs.length := by omega
    have hwl := hw rs[i] (List.getElem_mem hi)
    have hr := rd31 rs hi
    rw [List.drop_eq_getElem_cons hi]
    generalize rs[i] = r at hwl hr
    have open0 : ∀ q, Ev (fun k => rows_Of.j1 k (ofL c) (out.map t31) (rs.map t31) (rs.length : Int) (i : Int) (isKind c r) (t31 r).f0 (t31 r).f1) q → Ev (fun k => rows_Of.l0 k (ofL c) (out.map t31) (rs.map t31) (rs.length : Int) (i : Int)) q := by
      intro q h
      refine Ev.step (fun k => ?_) h
      simp only [rows_Of.l0]
      by_cases hne : r.ws = []
      · have hlen : (t31 r).f1.length = 0 := by
          show (r.ws.map ofL).length = 0
          rw [hne]; rfl
        have hk : isKind c r = false := by unfold isKind; rw [hne]; rfl
        rw [if_pos (by omega), if_pos (by omega), if_pos (by rw [List.length_map]; omega), hr, if_neg (by omega), hk]
      · have hlen : 0 < (t31 r).f1.length := by
          show 0 < (r.ws.map ofL).length
          rw [List.length_map]
          exact List.length_pos_iff.2 hne
        rw [if_pos (by omega), if_pos (by omega), if_pos (by rw [List.length_map]; omega), hr, if_pos (by omega), if_pos (by omega), head_test r c hne]
    refine open0 _ ?_
    cases hk : isKind c r with
    | true =>
      rw [List.filter_cons_of_pos hk]
      have ih := of_loopS c rs hl hw d (i + 1) (out ++ [r]) (by omega) (by simp; omega)
      rw [List.append_assoc] at ih
      refine Ev.step (fun k => ?_) ih
      simp only [rows_Of.j1]
      rw [if_pos trivial, clone_f _ (by show (r.ws.map ofL).length < _; rw [List.length_map]; omega), Option.bind_some, if_pos (by rw [List.length_map]; omega), wrap_nat (by omega), List.map_append]
      rfl
    | false =>
      rw [List.filter_cons_of_neg (by rw [hk]; decide)]
      refine Ev.step (fun k => ?_) (of_loopS c rs hl hw d (i + 1) out (by omega) (by omega))
      simp only [rows_Of.j1]
      rw [if_neg (by decide), wrap_nat (by omega)]
theorem of_evS (c : Bs) (rs : List Row) (hl : rs.length < 1000000) (hw : ∀ r ∈ rs, r.ws.length < 1000000) : Ev (fun k => rows_Of.f k (rs.map t31) (ofL c)) ((rs.filter (isKind c)).map t31) := by
  refine Ev.congr (fun k => ?_) (of_loopS c rs hl hw rs.length 0 [] (by omega) (by simp))
  unfold rows_Of.f
  rw [List.length_map]
  rfl
/-- Rows that came in, in plain bytes. -/
def plainR (x : S31) : Row := ⟨x.f0, x.f1.map (·.data.toList)⟩
theorem map_ofL_data (l : List ByteArray) : (l.map (·.data.toList)).map ofL = l := by
  rw [List.map_map]
  conv => rhs; rw [← List.map_id l]
  exact List.map_congr_left (fun x _ => data_ofL x)
theorem t31_plain (l : List S31) : (l.map plainR).map t31 = l := by
  rw [List.map_map]
  conv => rhs; rw [← List.map_id l]
  refine List.map_congr_left (fun x _ => ?_)
  show (⟨x.f0, (x.f1.map (·.data.toList)).map ofL⟩ : S31) = x
  rw [map_ofL_data]
theorem t36_plain (l : List S31) : (l.map plainR).map t36 = l.map to36 := by
  rw [List.map_map]
  refine List.map_congr_left (fun x _ => ?_)
  show (⟨x.f0, (x.f1.map (·.data.toList)).map ofL⟩ : S36) = ⟨x.f0, x.f1⟩
  rw [map_ofL_data]
end Go.Proofs.YthefdpioaapomaaDoor.Pj
namespace Go.Proofs.YthefdpioaapomaaDoor.Pj
set_option linter.unusedVariables false
set_option linter.unusedSimpArgs false
open Go.RowKit Go.Proofs.YthefdpioaapomaaDoorW.PrintWords Go.Proofs.YthefdpioaapomaaDoorW.PrintLast Go.Proofs.YthefdpioaapomaaDoor.Ext Go.Proofs.YthefdpioaapomaaDoorW.PrintMore Go.Proofs.YthefdpioaapomaaDoor.PA Go.Proofs.YthefdpioaapomaaDoor.PJ Go.Proofs.YthefdpioaapomaaDoor.Pl Go.Proofs.YthefdpioaapomaaDoor.Pu7

/-- Words of what is read are no longer than the text. -/
theorem parseGo_short (m : Nat) : ∀ (ls : List Bs) (i : Nat) (out : List Row), (∀ l ∈ ls, l.length ≤ m) → (∀ r ∈ out, ∀ s ∈ r.ws, s.length ≤ m) → ∀ r ∈ (parseGo ls i out).1, ∀ s ∈ r.ws, s.length ≤ m
  | [], i, out, _, ho => ho
  | l :: ls, i, out, hl, ho => by
    rw [parseGo]
    split
    · intro r hr; cases hr
    · split
      · exact parseGo_short m ls _ _ (fun x hx => hl x (List.mem_cons_of_mem _ hx)) ho
      · split
        · intro r hr; cases hr
        · refine parseGo_short m ls _ _ (fun x hx => hl x (List.mem_cons_of_mem _ hx)) (fun r hr s hs => ?_)
          rcases List.mem_append.1 hr with hr | hr
          · exact ho r hr s hs
          · obtain rfl := List.mem_singleton.1 hr
            have h1 := (wordsOf_mem hs).1
            have h2 := splitC_word_len 32 l s h1
            have := hl l List.mem_cons_self
            omega
theorem parseB_short (t : Bs) : ∀ r ∈ (parseB t).1, ∀ s ∈ r.ws, s.length ≤ 65536 := by
  unfold parseB
  split
  · intro r hr; cases hr
  · rename_i h
    exact parseGo_short 65536 _ _ _ (fun l hl => by have := splitC_word_len 10 t l hl; omega) (fun r hr => by cases hr)
theorem four_loadB {t : Bs} (m : Nat) (h : t.length ≤ m) : FourP m (loadB t).2.2 := by
  unfold loadB
  split
  · refine loadP_four _ _ (fun f hf => by cases hf) (fun r hr => ?_)
    have hr' := (List.mem_filter.1 hr).1
    unfold parseB at hr'
    split at hr'
    · cases hr'
    · exact parseGo_short m _ _ _ (fun l hl => by have := splitC_word_len 10 t l hl; omega) (fun r hr => by cases hr) r hr'
  · intro f hf; cases hf
set_option maxHeartbeats 2000000 in
set_option maxRecDepth 100000 in
theorem load25_any (t : Bs) (x : Int × Int × PL) (hx : loadB t = x) (w : World) (hG : Glob w) :
    Calls Tryd.prog 53 #[.string (ofL t)] w fun e w' => LoadsAt w' e (encR x) ∧ Below w.heap.size w w' := by
  obtain ⟨k, hk⟩ := Ev.rounds (parse_ev t)
  have hsp := parseB_spec t
  have hsh := parseB_short t
  obtain ⟨y, hy⟩ : ∃ y, y = parseB t := ⟨_, rfl⟩
  unfold loadB at hx
  rw [← hy] at hk hsp hsh hx
  obtain ⟨rs, line, er⟩ := y
  clear hy
  have HK := Aside0.mk hk
  have HG := Aside0.mk hG
  have HSP := Aside0.mk hsp
  have HSH := Aside0.mk hsh
  dsimp only at hx
  replace hk : rows_Parse.f k (ofL t) = some (rs.map t31, line, er) := hk
  have HX := Aside0.mk hx
  clear hk hG hsp hsh hx
  go_enter Tryd.func53, Tryd.ntmps53
  go_wp2_with fail
  refine (rows_Parse.calls k (ofL t) (rs.map t31) line er w HK.out HG.out).mono ?_
  rintro e w1 ⟨v, rfl, hS, hb⟩
  obtain ⟨A, c, hv, hc, hC⟩ := Kd.S_reads hS
  rw [List.length_map] at hv hc hC
  subst hv
  have HC := Aside0.mk hC
  have HB := Aside0.mk hb
  have hm : rs.length ≤ 9223372036854775807 := hC.2.1
  have HHc := Aside0.mk hc
  clear hS hb hC hc
  by_cases h0 : er = 0
  · subst h0
    have hX := HX.out
    rw [if_pos rfl] at hX
    have HX2 := Aside0.mk hX
    clear hX
    have hg : rs.length ≤ 2000 ∧ ∀ r ∈ rs, Go.Proofs.YthefdpioaapomaaDoor.Pu7.Good r := by
      rcases HSP.out with h | h
      · exact ⟨h.2.2.1, h.2.2.2.1⟩
      · exact absurd rfl h.1
    obtain ⟨k2, hk2⟩ := Ev.rounds (of_ev wList rs (by omega) (fun r hr => ⟨(hg.2 r hr).1, (hg.2 r hr).lt⟩))
    have HK2 := Aside0.mk hk2
    have HGd := Aside0.mk hg
    clear hk2 hg
    go_wp2_with fail
    refine (loadP_any k2 rs A c _ (HG.out.below HB.out) HC.out HHc.out (by have := HGd.out.1; omega) (fun r hr s hs => by have := HSH.out r hr s hs; omega) HK2.out).mono ?_
    rintro e w2 ⟨hL, hb2⟩
    have HB2 := Aside0.mk (below_step HB.out hb2)
    rw [HX2.out] at hL
    rcases hL with ⟨h1, B, M, n, rfl, hL⟩ | ⟨h1, rfl⟩
    · have HL := Aside0.mk hL
      have H1 := Aside0.mk h1
      clear hL h1 hb2
      go_wp2_with fail
      go_ret3
      exact ⟨.inl ⟨H1.out, B, M, n, rfl, HL.out⟩, HB2.out⟩
    · have H1 := Aside0.mk h1
      clear h1 hb2
      go_wp2_with fail
      go_ret3
      exact ⟨.inr ⟨H1.out, rfl⟩, HB2.out⟩
  · have hX := HX.out
    rw [if_neg h0] at hX
    have HX2 := Aside0.mk hX
    clear hX
    have f1 : (er == 0) = false := beq_eq_false_iff_ne.2 h0
    have f2 : (er != 0) = true := bne_iff_ne.2 h0
    go_wp2_with fail
    go_ret3
    exact ⟨by rw [← HX2.out]; exact .inr ⟨h0, rfl⟩, HB.out⟩
/-! awake -/
def tAwake : Bs := [108, 105, 115, 116, 32, 101, 110, 32, 108, 111, 110, 103, 32, 123, 48, 125, 44, 95, 123, 49, 125, 32, 123, 48, 125, 44, 95, 123, 49, 125, 32, 123, 48, 125, 44, 95, 123, 49, 125, 32, 123, 48, 125, 44, 95, 123, 49, 125]
def fAwake : PL := [(([101, 110], wLong), [[123, 48, 125, 44, 32, 123, 49, 125], [123, 48, 125, 44, 32, 123, 49, 125], [123, 48, 125, 44, 32, 123, 49, 125], [123, 48, 125, 44, 32, 123, 49, 125]])]
set_option maxRecDepth 100000 in
theorem load_awake : loadB tAwake = (0, 0, fAwake) := by decide +kernel
theorem join_awake : joinP fAwake (widthsB wLong) [[101, 110]] [[97], [98], [99]] = ([97, 44, 32, 98, 44, 32, 99], true) := by decide +kernel
theorem litS (w : World) (z : Nat) (hz : w.heap.size = z) (xs : List Bs) (hm : xs.length ≤ 9223372036854775807) : Kd.C Kd.string (w.alloc (.cells ((xs.map ofL).map Value.string).toArray 9)) (some ⟨z, 0, none⟩) xs.length (xs.map ofL) := by
  subst hz
  have h := litM w (xs.map ofL) (by rw [List.length_map]; exact hm)
  rw [List.length_map] at h
  exact h
/-- What was loaded, and no error. -/
theorem loads_ok {w : World} {e : Ending} {fs : PL} (h : LoadsAt w e (encR (0, 0, fs))) : ∃ B M n, e = .returned (.tuple #[.pointer (some ⟨B, 0, none⟩), .int .i64 0, .int .i64 0]) ∧ ListsAt w B M n (encP fs) := by
  rcases h with ⟨_, h⟩ | ⟨h, _⟩
  · exact h
  · exact absurd rfl h
/-- Join, the row's length under a letter of its own. -/
theorem joinN_any (nl : Nat) {l : List Bs} (hn : nl = l.length) (B M n : Nat) (fs : PL) (A A3 : Option Addr) (c c3 : Nat) (chain : List Bs) (s : Bs) (w : World) (hG : Glob w) (hL : ListsAt w B M n (encP fs)) (hC : Kd.C Kd.string w A chain.length (chain.map ofL)) (hc : chain.length ≤ c) (hC3 : Kd.C Kd.string w A3 l.length (l.map ofL)) (hc3 : nl ≤ c3)
    (hch : ∀ a ∈ chain, a.length ≤ maxLen) (hfs : FourP 120 fs) (hl8 : nl ≤ 8) (hl30 : ∀ x ∈ l, x.length ≤ 30) (r : Bs × Bool) (hr : joinP fs (widthsB s) chain l = r) :
    Calls Tryd.prog 54 #[.pointer (some ⟨B, 0, none⟩), .slice A chain.length c, .string (ofL s), .slice A3 nl c3] w fun e w' => e = .returned (.tuple #[.string (ofL r.1), .bool r.2]) ∧ Below w.heap.size w w' := by
  subst hn
  subst hr
  exact joinP_any B M n fs A A3 c c3 chain l s w hG hL hC hc hC3 hc3 hch hfs hl8 hl30
theorem four_awake : FourP 120 fAwake := by unfold FourP fAwake; decide
set_option maxHeartbeats 2000000 in
set_option maxRecDepth 100000 in
theorem awake25_any (w : World) (hG : Glob w) : Calls Tryd.prog 52 #[] w fun e w' => e = .returned (.bool true) ∧ Below w.heap.size w w' := by
  have HG := Aside0.mk hG
  clear hG
  go_enter Tryd.func52, Tryd.ntmps52
  go_wp2_with fail
  refine (load25_any tAwake _ load_awake w HG.out).mono ?_
  rintro e w1 ⟨hL0, hb⟩
  obtain ⟨B, M, n, rfl, hL⟩ := loads_ok hL0
  clear hL0
  have HL := Aside0.mk hL
  have HB := Aside0.mk hb
  clear hL hb
  go_wp2_with fail
  have hbA : Below w1.heap.size w1 ((w1.alloc (.cells #[.string ⟨#[101, 110]⟩] 9)).alloc (.cells #[.string ⟨#[97]⟩, .string ⟨#[98]⟩, .string ⟨#[99]⟩] 9)) := below_alloc (below_alloc (Below.refl _ _) _) _
  refine (joinP_any B M n fAwake _ _ _ _ [[101, 110]] [[97], [98], [99]] wLong _ ((HG.out.below HB.out).below hbA) (HL.out.below hbA) (Kd.C_alloc (litS w1 _ rfl [[101, 110]] (by decide)) _) (Nat.le_refl _) (litS _ _ (by simp) [[97], [98], [99]] (by decide)) (Nat.le_refl _) (by decide) four_awake (by decide) (by decide)).mono ?_
  rw [join_awake]
  rintro e w2 ⟨rfl, hb2⟩
  have HB2 := Aside0.mk (below_step (below_step HB.out hbA) hb2)
  clear hb2 hbA
  go_wp2_with fail
  go_ret
  exact ⟨by simp only [ofL_toList]; rfl, HB2.out⟩
end Go.Proofs.YthefdpioaapomaaDoor.Pj
namespace Go.Proofs.YthefdpioaapomaaDoor.Pj
set_option linter.unusedVariables false
set_option linter.unusedSimpArgs false
open Go.RowKit Go.Proofs.YthefdpioaapomaaDoorW.PrintWords Go.Proofs.YthefdpioaapomaaDoorW.PrintLast Go.Proofs.YthefdpioaapomaaDoor.Ext Go.Proofs.YthefdpioaapomaaDoorW.PrintMore Go.Proofs.YthefdpioaapomaaDoor.PA Go.Proofs.YthefdpioaapomaaDoor.PJ Go.Proofs.YthefdpioaapomaaDoor.Pl Go.Proofs.YthefdpioaapomaaDoor.Pu7

theorem to36_t31 (rs : List Row) : (rs.map t31).map to36 = rs.map t36 := by
  rw [List.map_map]
  exact List.map_congr_left (fun x _ => rfl)
theorem rows_S (rs : List Row) (A : Option Addr) (c : Nat) (w : World) (hC : Kd.C k31 w A rs.length (rs.map t31)) (hc : rs.length ≤ c) (hl : rs.length ≤ 1000) :
    Calls Tryd.prog 61 #[.slice A rs.length c] w fun e w' => (∃ A' c', e = .returned (.slice A' rs.length c') ∧ rs.length ≤ c' ∧ Kd.C k36 w' A' rs.length (rs.map t36)) ∧ Below w.heap.size w w' := by
  have e : (rs.map t31).length = rs.length := List.length_map _
  have h := rowsOf25_any A c (rs.map t31) w (by rw [e]; exact hC) (by rw [e]; exact hc) (by rw [e]; exact hl)
  rw [e, to36_t31] at h
  exact h
theorem join_S (base B : Nat) (vL vW vT : Value) (fs : PL) (A A3 : Option Addr) (c c3 : Nat) (ch al : List Bs) (sb : Bs) (w : World) (hG : Glob w) (hRA : RefAt w base B vL vW vT (lsOf fs) (wsOf fs) (tsOf fs)) (hX : w.heap[B]? = some (.cells #[vL, vW, vT] 120 (0, 0))) (hfl : fs.length ≤ 1000) (hU : Uniq fs)
    (hC : Kd.C Kd.string w A ch.length (ch.map ofL)) (hc : ch.length ≤ c) (hcl : ch.length ≤ 1000) (hC3 : Kd.C Kd.string w A3 al.length (al.map ofL)) (hc3 : al.length ≤ c3) (hfs : FourP 120 fs) (hl8 : al.length ≤ 8) (hl30 : ∀ x ∈ al, x.length ≤ 30) (r : Bs × Bool) (hr : joinP fs (widthsB sb) ch al = r) :
    Calls Tryd.prog 62 #[.pointer (some ⟨B, 0, none⟩), .slice A ch.length c, .string (ofL sb), .slice A3 al.length c3] w fun e w' => e = .returned (.tuple #[.string (ofL r.1), .bool r.2]) ∧ Below w.heap.size w w' := by
  subst hr
  have e : (al.map ofL).length = al.length := List.length_map _
  have h := joinT18_any base B vL vW vT fs A A3 c c3 ch (al.map ofL) (ofL sb) w hG hRA hX hfl hU hC hc hcl (by rw [e]; exact hC3) (by rw [e]; exact hc3) hfs (by rw [e]; exact hl8) (fun x hx => by obtain ⟨y, hy, rfl⟩ := List.mem_map.1 hx; rw [ofL_size]; exact hl30 y hy)
  rw [e, ofL_data, joinT_ofL] at h
  exact h
set_option maxHeartbeats 8000000 in
set_option maxRecDepth 100000 in
theorem JoinSays_plain (rs : List Row) (ch al : List Bs) (sb : Bs) (A0 A1 A3 : Option Addr) (c0 c1 c3 : Nat) (w : World) (hC0 : Kd.C k31 w A0 rs.length (rs.map t31)) (hc0 : rs.length ≤ c0) (hC1 : Kd.C Kd.string w A1 ch.length (ch.map ofL)) (hc1 : ch.length ≤ c1) (hm1 : ∀ x ∈ ch, x.length ≤ maxLen) (hC3 : Kd.C Kd.string w A3 al.length (al.map ofL)) (hc3 : al.length ≤ c3) (hG : Glob w) :
    Calls Tryd.prog 16 #[.slice A0 rs.length c0, .slice A1 ch.length c1, .string (ofL sb), .slice A3 al.length c3] w fun e w' => e = .returned (.bool true) ∧ Below w.heap.size w w' := by
  have hmc : ch.length ≤ 9223372036854775807 := hC1.2.1
  have hma : al.length ≤ 9223372036854775807 := hC3.2.1
  have HG := Aside0.mk hG
  have HC0 := Aside0.mk hC0
  have HC1 := Aside0.mk hC1
  have HC3 := Aside0.mk hC3
  have HM1 := Aside0.mk hm1
  clear hG hC0 hC1 hC3 hm1
  obtain ⟨S, hS⟩ : ∃ S, ofL sb = S := ⟨_, rfl⟩
  rw [hS]
  have HS := Aside0.mk hS
  clear hS
  go_enter Tryd.func16, Tryd.ntmps16
  go_wp2_with fail
  refine (awake25_any w HG.out).mono ?_
  rintro e w1 ⟨rfl, hb⟩
  have HB := Aside0.mk hb
  clear hb
  have hhv := heavy25_any A0 c0 (rs.map t31) w1 (by rw [List.length_map]; exact Kd.C_below HC0.out HB.out) (by rw [List.length_map]; exact hc0) (HG.out.below HB.out)
  rw [List.length_map] at hhv
  obtain ⟨hv, hhb⟩ : ∃ b, heavyB (rs.map t31) = b := ⟨_, rfl⟩
  rw [hhb] at hhv
  have HHv := Aside0.mk hhv
  have HHb := Aside0.mk hhb
  clear hhv hhb
  go_wp2_with fail
  refine HHv.out.mono ?_
  rintro e w2 ⟨rfl, hb⟩
  replace HB := Aside0.mk (below_step HB.out hb)
  clear hb HHv
  cases hv with
  | true =>
    go_wp2_with fail
    go_ret
    exact ⟨rfl, HB.out⟩
  | false =>
    have HV : Aside0 (rs.length ≤ 60 ∧ ∀ r ∈ rs, r.ws.length ≤ 30 ∧ ∀ s ∈ r.ws, s.length ≤ 120) := ⟨by
      obtain ⟨h1, h2⟩ := heavyB_no HHb.out
      rw [List.length_map] at h1
      refine ⟨h1, fun r hr => ?_⟩
      obtain ⟨h3, h4⟩ := h2 (t31 r) (List.mem_map.2 ⟨r, hr, rfl⟩)
      have h3' : (r.ws.map ofL).length ≤ 30 := h3
      rw [List.length_map] at h3'
      refine ⟨h3', fun s hs => ?_⟩
      have h5 := h4 (ofL s) (List.mem_map.2 ⟨s, hs, rfl⟩)
      rwa [ofL_size] at h5⟩
    clear HHb
    by_cases hc5 : 5 < ch.length
    · have g1 : (5 : Int) < (ch.length : Int) := by omega
      go_wp2_with fail
      go_ret
      exact ⟨rfl, HB.out⟩
    by_cases ha8 : 8 < al.length
    · have g1 : ¬ (5 : Int) < (ch.length : Int) := by omega
      have g2 : (8 : Int) < (al.length : Int) := by omega
      go_wp2_with fail
      go_ret
      exact ⟨rfl, HB.out⟩
    have g1 : ¬ (5 : Int) < (ch.length : Int) := by omega
    have g2 : ¬ (8 : Int) < (al.length : Int) := by omega
    go_wp2_with fail
    go_loopw [9] (fun i wr => ∃ (j : Nat), j ≤ al.length ∧ i = .int .i64 j ∧ Aside0 (∀ x ∈ al.take j, x.length ≤ 30) ∧ Aside0 (Below w2.heap.size w2 wr)) (fun i _ => al.length - (intOf i).toNat)
    case atStart => exact ⟨0, Nat.zero_le _, rfl, ⟨fun x hx => by simp at hx⟩, ⟨Below.refl _ _⟩⟩
    case round =>
      obtain ⟨j, hj, rfl, HJ, HBr⟩ := hrel
      rename World => wr
      by_cases hlt : j < al.length
      case pos =>
        obtain ⟨bk, o, rfl, hcs⟩ := C_strsD HC3.out (by omega)
        have hx := hcs j (by rw [List.length_map]; exact hlt)
        rw [List.getD_eq_getElem?_getD, List.getElem?_map, List.getElem?_eq_getElem hlt] at hx
        replace hx : w.cell? ⟨bk, o + j, none⟩ = some (.string (ofL al[j])) := hx
        replace hx := pw_cell_below (below_step HB.out HBr.out) hx
        have htk : al.take (j + 1) = al.take j ++ [al[j]] := List.take_succ_eq_append_getElem hlt
        have hz : (ofL al[j]).size = al[j].length := ofL_size _
        generalize al[j] = x at hx htk hz
        have HTk := Aside0.mk htk
        have hji : (j : Int) < (al.length : Int) := by omega
        have hj0 : (0 : Int) ≤ (j : Int) := by omega
        clear hcs htk
        by_cases h30 : 30 < x.length
        · have f1 : (30 : Int) < ((ofL x).size : Int) := by omega
          generalize ofL x = X at hx f1 hz
          clear hz
          go_wp2_with fail
          go_ret
          exact ⟨rfl, below_step HB.out HBr.out⟩
        · have f1 : ¬ (30 : Int) < ((ofL x).size : Int) := by omega
          have HJ2 : Aside0 (∀ y ∈ al.take (j + 1), y.length ≤ 30) := ⟨fun y hy => by
            rw [HTk.out] at hy
            rcases List.mem_append.1 hy with hy | hy
            · exact HJ.out y hy
            · rw [List.mem_singleton.1 hy]
              omega⟩
          generalize ofL x = X at hx f1 hz
          clear hz h30
          go_wp2_with fail
          exact ⟨⟨j + 1, by omega, by go_num, HJ2, HBr⟩, by simp [intOf]; omega⟩
      case neg =>
        have H30 : Aside0 (∀ x ∈ al, x.length ≤ 30) := ⟨by have h := HJ.out; rwa [List.take_of_length_le (by omega)] at h⟩
        obtain rfl : al.length = j := by omega
        replace HB : Aside0 (Below w.heap.size w wr) := ⟨below_step HB.out HBr.out⟩
        clear HJ HBr
        obtain ⟨k, hk⟩ := Ev.rounds (of_evS wList rs (by have := HV.out.1; omega) (fun r hr => by have := (HV.out.2 r hr).1; omega))
        have hld := loadP_any k rs A0 c0 wr (HG.out.below HB.out) (Kd.C_below HC0.out HB.out) hc0 (by have := HV.out.1; omega) (fun r hr s hs => by have := (HV.out.2 r hr).2 s hs; omega) hk
        have HX4 : Aside0 (FourP 120 (loadP (rs.filter (isKind wList)) []).2.2) := ⟨loadP_four _ _ (fun f hf => by cases hf) (fun r hr s hs => (HV.out.2 r (List.mem_filter.1 hr).1).2 s hs)⟩
        have HXU : Aside0 (Uniq (loadP (rs.filter (isKind wList)) []).2.2) := ⟨by rw [← loadQ_P]; exact loadQ_uniq rs [] (fun e he => by cases he)⟩
        have HXQ : Aside0 (loadQ rs [] = loadP (rs.filter (isKind wList)) []) := ⟨loadQ_P rs []⟩
        generalize loadP (rs.filter (isKind wList)) [] = X at hld HX4 HXU HXQ
        obtain ⟨x0, x1, fs⟩ := X
        have HLd := Aside0.mk hld
        clear hld hk
        go_wp2_with fail
        refine HLd.out.mono ?_
        rintro e w3 ⟨hL, hb⟩
        replace HB := Aside0.mk (below_step HB.out hb)
        clear hb HLd
        rcases hL with ⟨h1, B, M, n, rfl, hL⟩ | ⟨h1, rfl⟩
        case inr =>
          have h1' : x1 ≠ 0 := h1
          have f1 : (x1 == 0) = false := beq_eq_false_iff_ne.2 h1'
          have f2 : (x1 != 0) = true := bne_iff_ne.2 h1'
          have H1 := Aside0.mk h1'
          clear h1 h1'
          dsimp only [encR]
          go_wp2_with fail
          refine (rows_S rs A0 c0 _ (Kd.C_below HC0.out HB.out) hc0 (by have := HV.out.1; omega)).mono ?_
          rintro e w4 ⟨⟨A4, c4, rfl, hc4, hC4⟩, hb⟩
          have HC4 := Aside0.mk hC4
          replace HB := Aside0.mk (below_step HB.out hb)
          clear hb hC4
          have hld := loadLists_any rs A4 c4 w4 (HG.out.below HB.out) HC4.out hc4 (by have := HV.out.1; omega) (fun r hr => ⟨by have := (HV.out.2 r hr).1; omega, (HV.out.2 r hr).2⟩)
          rw [HXQ.out] at hld
          have HLd := Aside0.mk hld
          clear hld
          go_wp2_with fail
          refine HLd.out.mono ?_
          rintro e w5 ⟨hL, hb⟩
          replace HB := Aside0.mk (below_step HB.out hb)
          clear hb HLd
          rcases hL with ⟨h2, _⟩ | ⟨_, rfl⟩
          · exact absurd h2 H1.out
          · dsimp only
            have s1 : (x1 != x1) = false := by simp
            have s2 : (x0 != x0) = false := by simp
            go_wp2_with fail
            go_ret
            exact ⟨rfl, HB.out⟩
        case inl =>
          obtain rfl : x1 = 0 := h1
          have HL : Aside0 (ListsAt w3 B M n (encP fs)) := ⟨hL⟩
          clear hL
          go_wp2_with fail
          refine (rows_S rs A0 c0 _ (Kd.C_below HC0.out HB.out) hc0 (by have := HV.out.1; omega)).mono ?_
          rintro e w4 ⟨⟨A4, c4, rfl, hc4, hC4⟩, hb⟩
          have HC4 := Aside0.mk hC4
          replace HL := Aside0.mk (HL.out.below hb)
          replace HB := Aside0.mk (below_step HB.out hb)
          clear hb hC4
          have hld := loadLists_any rs A4 c4 w4 (HG.out.below HB.out) HC4.out hc4 (by have := HV.out.1; omega) (fun r hr => ⟨by have := (HV.out.2 r hr).1; omega, (HV.out.2 r hr).2⟩)
          rw [HXQ.out] at hld
          have HLd := Aside0.mk hld
          clear hld
          go_wp2_with fail
          refine HLd.out.mono ?_
          rintro e w5 ⟨hL, hb⟩
          replace HL := Aside0.mk (HL.out.below hb)
          replace HB := Aside0.mk (below_step HB.out hb)
          clear hb HLd
          rcases hL with ⟨_, base, B2, vL, vW, vT, rfl, hRA, hBX, hfl, _⟩ | ⟨h2, _⟩
          case inr => exact absurd rfl h2
          have HRA : Aside0 (RefAt w5 base B2 vL vW vT (lsOf fs) (wsOf fs) (tsOf fs)) := ⟨hRA⟩
          have HBX := Aside0.mk hBX
          have HFl : Aside0 (fs.length ≤ 1000) := ⟨hfl⟩
          have HF4 : Aside0 (FourP 120 fs) := HX4
          have HU : Aside0 (Uniq fs) := HXU
          clear hRA hBX hfl HX4 HXU HXQ
          obtain ⟨jr, hjr⟩ : ∃ x, joinP fs (widthsB sb) ch al = x := ⟨_, rfl⟩
          obtain ⟨fr, hfr⟩ : ∃ x, findP fs (widthsB sb) ch = x := ⟨_, rfl⟩
          have hJ := joinP_any B M n fs A1 A3 c1 c3 ch al sb w5 (HG.out.below HB.out) HL.out (Kd.C_below HC1.out HB.out) hc1 (Kd.C_below HC3.out HB.out) hc3 HM1.out HF4.out (by omega) H30.out
          rw [hjr, HS.out] at hJ
          have HJ := Aside0.mk hJ
          have HJr := Aside0.mk hjr
          have HFr := Aside0.mk hfr
          clear hJ hjr hfr
          go_wp2_with fail
          refine HJ.out.mono ?_
          rintro e w6 ⟨rfl, hb⟩
          replace HL := Aside0.mk (HL.out.below hb)
          replace HRA := Aside0.mk (HRA.out.below hb)
          replace HBX := Aside0.mk (blk_below HBX.out hb)
          replace HB := Aside0.mk (below_step HB.out hb)
          clear hb HJ
          have hJ := join_S base B2 vL vW vT fs A1 A3 c1 c3 ch al sb w6 (HG.out.below HB.out) HRA.out HBX.out HFl.out HU.out (Kd.C_below HC1.out HB.out) hc1 (by omega) (Kd.C_below HC3.out HB.out) hc3 HF4.out (by omega) H30.out jr HJr.out
          rw [HS.out] at hJ
          have HJ := Aside0.mk hJ
          clear hJ
          go_wp2_with fail
          refine HJ.out.mono ?_
          rintro e w7 ⟨rfl, hb⟩
          replace HL := Aside0.mk (HL.out.below hb)
          replace HRA := Aside0.mk (HRA.out.below hb)
          replace HBX := Aside0.mk (blk_below HBX.out hb)
          replace HB := Aside0.mk (below_step HB.out hb)
          clear hb HJ
          have hF := findP_any B M n fs A1 c1 ch sb w7 (HG.out.below HB.out) HL.out (Kd.C_below HC1.out HB.out) hc1 HM1.out HF4.out fr HFr.out
          rw [HS.out] at hF
          have HFd := Aside0.mk hF
          clear hF
          go_wp2_with fail
          refine HFd.out.mono ?_
          rintro e w8 ⟨hFo, hb⟩
          replace HRA := Aside0.mk (HRA.out.below hb)
          replace HBX := Aside0.mk (blk_below HBX.out hb)
          replace HB := Aside0.mk (below_step HB.out hb)
          clear hb HFd HL
          have hF2 := find18_any base B2 vL vW vT fs A1 c1 ch S w8 (HG.out.below HB.out) HRA.out HBX.out HFl.out HU.out (Kd.C_below HC1.out HB.out) hc1 (by omega) fr (by rw [← HS.out, ofL_data]; exact HFr.out)
          have HF2 := Aside0.mk hF2
          obtain ⟨j1, j2⟩ := jr
          dsimp only
          have s1 : ((ofL j1).toList == (ofL j1).toList) = true := by simp
          have s2 : (j2 == j2) = true := by simp
          generalize ofL j1 = J1 at s1 ⊢
          clear hF2
          cases fr with
          | none =>
            obtain rfl : e = _ := hFo
            go_wp2_with fail
            refine HF2.out.mono ?_
            rintro e w9 ⟨hFo, hb⟩
            obtain rfl : e = _ := hFo
            replace HB := Aside0.mk (below_step HB.out hb)
            clear hb
            go_wp2_with fail
            refine (texts25_S 0 [] rfl (by decide) _ _ _ _ _ (Kd.C_nil _ _) (Nat.le_refl _) (Kd.C_nil _ _) (Nat.le_refl _) (HG.out.below HB.out)).mono ?_
            rintro e w10 ⟨rfl, hb⟩
            replace HB := Aside0.mk (below_step HB.out hb)
            clear hb
            go_wp2_with fail
            go_ret
            exact ⟨rfl, HB.out⟩
          | some xs =>
            obtain ⟨v, rfl, hRv⟩ := hFo
            obtain ⟨A5, c5, rfl, hc5, hC5⟩ := Kd.R_reads hRv
            rw [List.length_map] at hc5 hC5 ⊢
            obtain ⟨f, hf, hfx⟩ := findP_mem HFr.out
            have hx4 : xs.length = 4 := by rw [← hfx]; exact (HF4.out f hf).1
            have HC5 := Aside0.mk hC5
            have HX4 := Aside0.mk hx4
            obtain ⟨nx, hnx⟩ : ∃ m, xs.length = m := ⟨_, rfl⟩
            have HNx := Aside0.mk hnx
            rw [hnx] at hc5 ⊢
            clear hRv hC5 hx4 hf hfx hnx
            go_wp2_with fail
            refine HF2.out.mono ?_
            rintro e w9 ⟨⟨A6, c6, rfl, hc6, hC6⟩, hb⟩
            have HC6 := Aside0.mk hC6
            replace HC5 := Aside0.mk (Kd.C_below HC5.out hb)
            replace HB := Aside0.mk (below_step HB.out hb)
            rw [HNx.out] at hc6 HC5 HC6 ⊢
            clear hb hC6
            go_wp2_with fail
            refine (texts25_S nx (xs.map ofL) (by rw [List.length_map, HNx.out]) (by rw [← HNx.out, HX4.out]; decide) _ _ _ _ _ HC5.out hc5 HC6.out hc6 (HG.out.below HB.out)).mono ?_
            rintro e w10 ⟨rfl, hb⟩
            replace HB := Aside0.mk (below_step HB.out hb)
            clear hb
            go_wp2_with fail
            go_ret
            exact ⟨rfl, HB.out⟩
theorem JoinSays_any (A0 : Option Addr) (c0 : Nat) (l : List S31) (A1 : Option Addr) (c1 : Nat) (chain : List ByteArray) (s : ByteArray) (A3 : Option Addr) (c3 : Nat) (a : List ByteArray) (w : World) (hC0 : Kd.C k31 w A0 l.length l) (hc0 : l.length ≤ c0) (hC1 : Kd.C Kd.string w A1 chain.length chain) (hc1 : chain.length ≤ c1) (hm1 : ∀ x ∈ chain, x.size ≤ maxLen) (hC3 : Kd.C Kd.string w A3 a.length a) (hc3 : a.length ≤ c3) (hG : Glob w) :
    Calls Tryd.prog 16 #[.slice A0 l.length c0, .slice A1 chain.length c1, .string s, .slice A3 a.length c3] w fun e w' => e = .returned (.bool true) ∧ Below w.heap.size w w' := by
  have h := JoinSays_plain (l.map plainR) (chain.map (·.data.toList)) (a.map (·.data.toList)) s.data.toList A0 A1 A3 c0 c1 c3 w (by rw [List.length_map, t31_plain]; exact hC0) (by rw [List.length_map]; exact hc0) (by rw [List.length_map, map_ofL_data]; exact hC1) (by rw [List.length_map]; exact hc1)
    (fun x hx => by obtain ⟨y, hy, rfl⟩ := List.mem_map.1 hx; exact hm1 y hy) (by rw [List.length_map, map_ofL_data]; exact hC3) (by rw [List.length_map]; exact hc3) hG
  rw [List.length_map, List.length_map, List.length_map, data_ofL] at h
  exact h
end Go.Proofs.YthefdpioaapomaaDoor.Pj
