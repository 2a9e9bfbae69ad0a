/- cubitref18.LoadLists, walked by hand: all rows are read into the lists, or one is refused. -/
import Derived.Test.YthefdpioaapomaaDoorRefS
import Derived.Deep.QuietTactic
import Derived.BigQuiet
import Derived.WalkSpells
import Derived.WalkLawsBesides
namespace Go.Proofs.YthefdpioaapomaaDoor.Pj
set_option linter.unusedVariables false
set_option linter.unusedSimpArgs false
open Go.RowKit Go.Proofs.YthefdpioaapomaaDoorW.PrintWords Go.Proofs.YthefdpioaapomaaDoorW.PrintLast Go.Proofs.YthefdpioaapomaaDoor.Ext Go.Proofs.YthefdpioaapomaaDoorW.PrintMore Go.Proofs.YthefdpioaapomaaDoor.PA Go.Proofs.YthefdpioaapomaaDoor.PJ Go.Proofs.YthefdpioaapomaaDoor.Pl Go.Proofs.YthefdpioaapomaaDoor.Pu7

/-- The document's answer. -/
def RefLoadsAt (w : World) (e : Ending) (x : Int × Int × PL) : Prop :=
  (x.2.1 = 0 ∧ ∃ (base B : Nat) (vL vW vT : Value), e = .returned (.tuple #[.pointer (some ⟨B, 0, none⟩), .int .i64 0, .int .i64 0]) ∧ RefAt w base B vL vW vT (lsOf x.2.2) (wsOf x.2.2) (tsOf x.2.2) ∧ w.heap[B]? = some (.cells #[vL, vW, vT] 120 (0, 0)) ∧ x.2.2.length ≤ 1000 ∧ FourP 120 x.2.2) ∨
  (x.2.1 ≠ 0 ∧ e = .returned (.tuple #[.pointer none, .int .i64 x.1, .int .i64 x.2.1]))
theorem rowP_len {fs : PL} {l : List Bs} (h : l.length ≠ 6) : rowP fs l = (2, fs) := by
  match l, h with
  | [], _ => rfl
  | [_], _ => rfl
  | a :: b :: l, h =>
    rw [rowP, if_neg]
    simp only [List.length_cons] at h
    omega
theorem rowP_no {fs : PL} {a b : Bs} {l : List Bs} (h : ¬ (langB a = true ∧ widthB b = true)) : rowP fs (a :: b :: l) = (2, fs) := by
  rw [rowP, if_neg (fun q => h q.2)]
theorem rowP_bad {fs : PL} {a b : Bs} {l : List Bs} (h : ∃ s ∈ l, goodP (blankP s) = false) : rowP fs (a :: b :: l) = (2, fs) := by
  rw [rowP]
  obtain ⟨s, hs, hg⟩ := h
  have : ¬ (l.all fun s => goodP (blankP s)) = true := fun q => by rw [List.all_eq_true] at q; rw [q s hs] at hg; cases hg
  by_cases h1 : l.length = 4 ∧ langB a = true ∧ widthB b = true
  · rw [if_pos h1, if_neg this]
  · rw [if_neg h1]
theorem rowP_all {fs : PL} {a b : Bs} {l : List Bs} (h : l.length = 4 ∧ langB a = true ∧ widthB b = true) (hg : ∀ s ∈ l, goodP (blankP s) = true) :
    rowP fs (a :: b :: l) = (match getP fs (a, b) with | some _ => (10, fs) | none => (0, ((a, b), l.map blankP) :: fs)) := by
  rw [rowP, if_pos h, if_pos (List.all_eq_true.2 hg)]
  cases getP fs (a, b) <;> rfl
theorem getD_rev {α : Type} (fs : List α) (d : α) (q : Nat) (h : q < fs.length) : ∃ e ∈ fs, fs.reverse[q]? = some e := by
  have hl : q < fs.reverse.length := by rw [List.length_reverse]; exact h
  exact ⟨_, List.mem_reverse.1 (List.getElem_mem hl), List.getElem?_eq_getElem hl⟩
theorem below_noneR {w0 W w1 : World} {b : Nat} (hg : W.grownBy w1 none) (hb : Below b w0 w1) (h0 : Below b w0 W) : Below W.heap.size W w1 :=
  ⟨hg.os, hg.tape, hg.output, hg.size, fun i hi => hg.block i hi (by simp)⟩
theorem getD_three (h a b : Bs) (ts : List Bs) (q : Nat) (h3 : 3 ≤ q) (hq : q - 3 < ts.length) : ((h :: a :: b :: ts).map ofL).getD q ByteArray.empty = ofL ts[q - 3] := by
  obtain ⟨p, rfl⟩ : ∃ p, q = p + 3 := ⟨q - 3, by omega⟩
  have hp : p < ts.length := by omega
  rw [List.getD_eq_getElem?_getD, List.getElem?_map]
  show (Option.map ofL ts[p]?).getD _ = _
  rw [List.getElem?_eq_getElem hp]
  simp
theorem at_rev {fs : PL} {q : Nat} (h : q < fs.length) : ∃ e ∈ fs, (lsOf fs).getD q ByteArray.empty = ofL e.1.1 ∧ (wsOf fs).getD q ByteArray.empty = ofL e.1.2 ∧ (tsOf fs).getD q [] = e.2.map ofL ∧ fs.reverse.take (q + 1) = fs.reverse.take q ++ [e] := by
  have hl : q < fs.reverse.length := by rw [List.length_reverse]; exact h
  refine ⟨fs.reverse[q], List.mem_reverse.1 (List.getElem_mem hl), ?_, ?_, ?_, List.take_succ_eq_append_getElem hl⟩
  · unfold lsOf
    rw [List.getD_eq_getElem?_getD, List.getElem?_map, List.getElem?_eq_getElem hl]
    rfl
  · unfold wsOf
    rw [List.getD_eq_getElem?_getD, List.getElem?_map, List.getElem?_eq_getElem hl]
    rfl
  · unfold tsOf
    rw [List.getD_eq_getElem?_getD, List.getElem?_map, List.getElem?_eq_getElem hl]
    rfl
theorem str_ne {x y : Bs} (h : x ≠ y) : ((ofL x).toList == (ofL y).toList) = false := by rw [ofL_toList, ofL_toList]; exact beq_eq_false_iff_ne.2 h
set_option maxHeartbeats 8000000 in
set_option maxRecDepth 100000 in
theorem loadLists_any (rs : List Row) (A : Option Addr) (c : Nat) (w : World) (hG : Glob w) (hC : Kd.C k36 w A rs.length (rs.map t36)) (hc : rs.length ≤ c) (hl : rs.length ≤ 1000) (hw : ∀ r ∈ rs, r.ws.length ≤ 1000 ∧ ∀ s ∈ r.ws, s.length ≤ 120) :
    Calls Tryd.prog 60 #[.slice A rs.length c] w fun e w' => RefLoadsAt w' e (loadQ rs []) ∧ Below w.heap.size w w' := by
  have hm : (rs.map t36).length = rs.length := List.length_map _
  have HC := Aside0.mk hC
  have HG := Aside0.mk hG
  have HW := Aside0.mk hw
  have HM := Aside0.mk hm
  obtain ⟨res, hres⟩ : ∃ x, loadQ rs [] = x := ⟨_, rfl⟩
  rw [hres]
  have HRes := Aside0.mk hres
  clear hC hG hw hm hres
  go_enter Tryd.func60, Tryd.ntmps60
  go_wp2_with fail
  go_loopw [6] (fun i wr => ∃ (j : Nat) (fs : PL) (vL vW vT : Value), j ≤ rs.length ∧ i = .int .i64 j ∧ Aside0 (loadQ (rs.drop j) fs = res) ∧ Aside0 (RefAt wr w.heap.size w.heap.size vL vW vT (lsOf fs) (wsOf fs) (tsOf fs)) ∧ Aside0 (wr.heap[w.heap.size]? = some (.cells #[vL, vW, vT] 120 (0, 0))) ∧ Aside0 (fs.length ≤ j ∧ FourP 120 fs) ∧ Aside0 (Below w.heap.size w wr)) (fun i _ => rs.length - (intOf i).toNat)
  case atStart => exact ⟨0, [], .slice none 0 0, .slice none 0 0, .slice none 0 0, Nat.zero_le _, rfl, HRes, ⟨⟨Kd.R_nil _ _ _ _ _, Kd.R_nil _ _ _ _ _, Kd.N_nil _ _ _ _ _, (fun k hk => by simp [Value.ownBlock] at hk), _, blk_new w _⟩⟩, ⟨blk_new w _⟩, ⟨Nat.le_refl _, fun f hf => by cases hf⟩, ⟨below_alloc (Below.refl _ _) _⟩⟩
  case round =>
    obtain ⟨j, fs, vL, vW, vT, hj, rfl, HE, HR, HBX, HF4, HB⟩ := hrel
    by_cases hlt : j < rs.length
    case neg =>
      obtain rfl : rs.length = j := by omega
      have hE := HE.out
      rw [List.drop_length, loadQ] at hE
      have HE2 := Aside0.mk hE
      clear hE HE
      go_wp2_with fail
      go_ret3
      exact ⟨by rw [← HE2.out]; exact .inl ⟨rfl, _, _, _, _, _, rfl, HR.out, HBX.out, by have := HF4.out.1; show fs.length ≤ 1000; omega, HF4.out.2⟩, HB.out⟩
    have hE := HE.out
    rw [List.drop_eq_getElem_cons hlt, loadQ] at hE
    have hrd : rd_T36 (rs.map t36) (j : Int) = t36 rs[j] := by simp [rd_T36, hlt]
    obtain ⟨ad, A1, c1, hA, hx0, hx1, hc1, hCr⟩ := at_T36 HC.out (j : Int) (by omega) (by omega)
    rw [hrd] at hx0 hx1 hc1 hCr
    rw [Int.toNat_natCast] at hx0 hx1
    have hws := HW.out _ (List.getElem_mem hlt)
    generalize rs[j] = r at hE hx0 hx1 hc1 hCr hws
    obtain ⟨line, ws⟩ := r
    replace hx0 : wr.cell? (ad.add (j * 2)) = some (.int .i64 line) := pw_cell_below HB.out hx0
    replace hx1 : wr.cell? ⟨(ad.add (j * 2)).block, (ad.add (j * 2)).off + 1, none⟩ = some (.slice A1 (ws.map ofL).length c1) := pw_cell_below HB.out hx1
    replace hc1 : (ws.map ofL).length ≤ c1 := hc1
    replace hCr : Kd.C Kd.string w A1 (ws.map ofL).length (ws.map ofL) := hCr
    rw [List.length_map] at hx1 hc1 hCr
    subst hA
    have HWs := Aside0.mk hws
    have b0 : (0 : Int) ≤ (j : Int) := by omega
    clear hrd hws HE
    have HX0 := Aside0.mk hx0
    cases ws with
    | nil =>
      have hE2 : loadQ (rs.drop (j + 1)) fs = res := hE
      have HE2 := Aside0.mk hE2
      clear hE hE2 hCr hx0
      rw [List.length_nil] at hx1
      go_wp2_with fail
      exact ⟨⟨j + 1, fs, vL, vW, vT, by omega, by go_num, HE2, HR, HBX, ⟨by have := HF4.out.1; omega, HF4.out.2⟩, HB⟩, by simp [intOf]; omega⟩
    | cons h l =>
      obtain ⟨b1, o1, rfl, hcsw⟩ := C_strsD hCr (by simp)
      have hcs : ∀ j < ((h :: l).map ofL).length, wr.cell? ⟨b1, o1 + j, none⟩ = some (.string (((h :: l).map ofL).getD j ByteArray.empty)) := fun j hj => pw_cell_below HB.out (hcsw j hj)
      have HCw := Aside0.mk hcsw
      have HCs := Aside0.mk hcs
      obtain ⟨nl, hnl⟩ : ∃ m, m = (h :: l).length := ⟨_, rfl⟩
      rw [← hnl] at hx1 hc1
      have hnl1 : nl = l.length + 1 := hnl
      have z0 : wr.cell? ⟨b1, o1, none⟩ = some (.string (ofL h)) := hcs 0 (by simp)
      have HNl := Aside0.mk hnl1
      have n1 : ((nl : Int) == 0) = false := by simp; omega
      have n2 : decide ((nl : Int) = 0) = false := decide_eq_false (by omega)
      have n3 : (0 : Int) < (nl : Int) := by omega
      have n4 : 0 < nl := by omega
      clear hcs hcsw hCr hnl hnl1
      by_cases hk : h = wList
      case neg =>
        have t0 : ((ofL h).toList == ([108, 105, 115, 116] : List UInt8)) = false := by rw [ofL_toList]; exact beq_eq_false_iff_ne.2 hk
        have t1 : ((ofL h).toList != ([108, 105, 115, 116] : List UInt8)) = true := by unfold bne; rw [t0]; rfl
        have hkd : ¬ isKind wList ⟨line, h :: l⟩ = true := by
          unfold isKind
          simp only [List.head?_cons, Bool.not_eq_true, beq_eq_false_iff_ne, ne_eq, Option.some.injEq]
          exact hk
        rw [if_neg hkd] at hE
        have HE2 := Aside0.mk hE
        generalize ofL h = h' at z0 t0 t1
        clear hE hk hkd hx0
        go_wp2_with fail
        exact ⟨⟨j + 1, fs, vL, vW, vT, by omega, by go_num, HE2, HR, HBX, ⟨by have := HF4.out.1; omega, HF4.out.2⟩, HB⟩, by simp [intOf]; omega⟩
      case pos =>
        subst hk
        have hkd : isKind wList ⟨line, wList :: l⟩ = true := by unfold isKind; rfl
        rw [if_pos hkd, show (⟨line, wList :: l⟩ : Row).ws.drop 1 = l from rfl] at hE
        have HE2 := Aside0.mk hE
        have t0 : ((ofL wList).toList == ([108, 105, 115, 116] : List UInt8)) = true := by rw [ofL_toList]; rfl
        have t1 : ((ofL wList).toList != ([108, 105, 115, 116] : List UInt8)) = false := by unfold bne; rw [t0]; rfl
        generalize ofL wList = h' at z0 t0 t1
        clear hE hkd
        by_cases h6 : l.length = 6
        case neg =>
          have f1 : decide ((nl : Int) = 7) = false := decide_eq_false (by have := HNl.out; omega)
          have f2 : ((nl : Int) == 7) = false := by have := HNl.out; simp; omega
          have f3 : ((nl : Int) != 7) = true := by have := HNl.out; simp; omega
          have hE3 := HE2.out
          rw [rowP_len h6, if_neg (show ¬ ((2 : Int) = 0) by decide)] at hE3
          have HE3 := Aside0.mk hE3
          clear hE3 h6
          go_wp2_with fail
          go_quiet (fail)
          go_wp2_with fail
          go_ret3
          exact ⟨by rw [← HE3.out]; exact .inr ⟨show (2 : Int) ≠ 0 by decide, rfl⟩, pw_below_drewN HB.out _⟩
        case pos =>
          obtain rfl : nl = 7 := by have := HNl.out; omega
          obtain ⟨a, b, ts, rfl, hl4⟩ : ∃ a b ts, l = a :: b :: ts ∧ ts.length = 4 := by
            rcases l with _ | ⟨a, _ | ⟨b, l⟩⟩
            · cases h6
            · cases h6
            · exact ⟨a, b, l, rfl, by simp only [List.length_cons] at h6; omega⟩
          have HW1 : Aside0 (w.cell? ⟨b1, o1 + 1, none⟩ = some (.string (ofL a))) := ⟨HCw.out 1 (by simp)⟩
          have HW2 : Aside0 (w.cell? ⟨b1, o1 + 2, none⟩ = some (.string (ofL b))) := ⟨HCw.out 2 (by simp)⟩
          have HX1 : Aside0 (wr.cell? ⟨b1, o1 + 1, none⟩ = some (.string (ofL a))) := ⟨HCs.out 1 (by simp)⟩
          have HX2 : Aside0 (wr.cell? ⟨b1, o1 + 2, none⟩ = some (.string (ofL b))) := ⟨HCs.out 2 (by simp)⟩
          have HSz : Aside0 ((ofL a).size ≤ 100000 ∧ (ofL b).size ≤ 100000) := ⟨by rw [ofL_size]; have := HWs.out.2 a (by simp); omega, by rw [ofL_size]; have := HWs.out.2 b (by simp); omega⟩
          obtain ⟨la, hla⟩ : ∃ x, langB a = x := ⟨_, rfl⟩
          have HLa : Aside0 (langB (ofL a).data.toList = la) := ⟨hla⟩
          have hx1a := HX1.out
          have HLa2 := Aside0.mk hla
          have HL4 := Aside0.mk hl4
          clear h6 hla hl4 n1 n2 n3 n4
          go_wp2_with fail
          refine (lang18_any _ la HSz.out.1 HLa.out _ (HG.out.below HB.out)).mono ?_
          rintro e w1 ⟨rfl, hb⟩
          have HB1 := Aside0.mk hb
          clear hb hx1a
          cases la with
          | false =>
            have hE3 := HE2.out
            rw [rowP_no (by rw [HLa2.out]; simp), if_neg (show ¬ ((2 : Int) = 0) by decide)] at hE3
            have HE3 := Aside0.mk hE3
            have y0 := pw_cell_below HB1.out HX0.out
            clear hE3 hx0 hx1 z0
            go_wp2_with fail
            go_quiet (fail)
            go_wp2_with fail
            go_ret3
            exact ⟨by rw [← HE3.out]; exact .inr ⟨show (2 : Int) ≠ 0 by decide, rfl⟩, pw_below_drewN (below_step HB.out HB1.out) _⟩
          | true =>
            obtain ⟨lb, hlb⟩ : ∃ x, widthB b = x := ⟨_, rfl⟩
            have HLb : Aside0 (widthB (ofL b).data.toList = lb) := ⟨hlb⟩
            have HLb2 := Aside0.mk hlb
            have hx2 := pw_cell_below HB1.out HX2.out
            clear hlb hx0 hx1 z0
            go_wp2_with fail
            refine (width18_any _ lb HLb.out _ (HG.out.below (below_step HB.out HB1.out))).mono ?_
            rintro e w2 ⟨rfl, hb⟩
            replace HB1 := Aside0.mk (below_step HB1.out hb)
            clear hb hx2
            cases lb with
            | false =>
              have hE3 := HE2.out
              rw [rowP_no (by rw [HLb2.out]; simp), if_neg (show ¬ ((2 : Int) = 0) by decide)] at hE3
              have HE3 := Aside0.mk hE3
              have y0 := pw_cell_below HB1.out HX0.out
              clear hE3
              go_wp2_with fail
              go_quiet (fail)
              go_wp2_with fail
              go_ret3
              exact ⟨by rw [← HE3.out]; exact .inr ⟨show (2 : Int) ≠ 0 by decide, rfl⟩, pw_below_drewN (below_step HB.out HB1.out) _⟩
            | true =>
              go_wp2_with fail
              go_loopw [8, 9] (fun v k wq => ∃ (q : Nat), 3 ≤ q ∧ q ≤ 7 ∧ k = .int .i64 q ∧ Aside0 (∀ s ∈ ts.take (q - 3), goodP (blankP s) = true) ∧ Aside0 (Kd.R Kd.string 9 wq w2.heap.size (fun _ => True) v (((ts.take (q - 3)).map blankP).map ofL)) ∧ Aside0 (Below w2.heap.size w2 wq)) (fun _ k _ => 7 - (intOf k).toNat)
              case atStart => exact ⟨3, by omega, by omega, rfl, ⟨fun s hs => by simp at hs⟩, ⟨Kd.R_nil _ _ _ _ _⟩, ⟨Below.refl _ _⟩⟩
              case round =>
                obtain ⟨q, hq3, hq7, rfl, HGd, HO, HBq⟩ := hrel
                rename World => wq
                by_cases hq : q < 7
                case pos =>
                  have hqi : (q : Int) < 7 := by omega
                  have hq0 : (0 : Int) ≤ (q : Int) := by omega
                  have hql : q - 3 < ts.length := by have := HL4.out; omega
                  have hx := pw_cell_below (below_step HB1.out HBq.out) (HCs.out q (by rw [List.length_map]; simp only [List.length_cons]; have := HL4.out; omega))
                  have hge := getD_three wList a b ts q hq3 hql
                  rw [hge] at hx
                  have hs120 := HWs.out.2 ts[q - 3] (by simp)
                  have htk : ts.take (q + 1 - 3) = ts.take (q - 3) ++ [ts[q - 3]] := by rw [show q + 1 - 3 = q - 3 + 1 by omega, List.take_succ_eq_append_getElem hql]
                  have hmem : ts[q - 3] ∈ ts := List.getElem_mem hql
                  generalize ts[q - 3] = s at hx hs120 htk hmem
                  obtain ⟨S, hS⟩ : ∃ S, ofL s = S := ⟨_, rfl⟩
                  obtain ⟨T, hT⟩ : ∃ T, ofL (blankP s) = T := ⟨_, rfl⟩
                  have HSx : Aside0 (ofL (blankP S.data.toList) = T) := ⟨by rw [← hS, ofL_data]; exact hT⟩
                  have HTd : Aside0 (T.data.toList = blankP s) := ⟨by rw [← hT, ofL_data]⟩
                  have HSz1 : Aside0 (S.size ≤ 100000) := ⟨by rw [← hS, ofL_size]; omega⟩
                  have HSz2 : Aside0 (T.size ≤ 100000) := ⟨by rw [← hT, ofL_size]; unfold blankP; rw [List.length_map]; omega⟩
                  have HTk := Aside0.mk htk
                  have HMm := Aside0.mk hmem
                  have HTT := Aside0.mk hT
                  rw [hS] at hx
                  clear hS hT hge htk hmem hs120 hql
                  go_wp2_with fail
                  refine (blank18_any S T HSx.out HSz1.out _ (HG.out.below (below_step HB.out (below_step HB1.out HBq.out)))).mono ?_
                  rintro e w3 ⟨rfl, hb⟩
                  have HO3 := Aside0.mk (Kd.R_below HO.out hb)
                  have HB3 := Aside0.mk (below_step HBq.out hb)
                  clear hb hx
                  obtain ⟨n0, hn0⟩ : ∃ n, Lib.count T.data.toList [123, 48, 125] = n := ⟨_, rfl⟩
                  have HN0 := Aside0.mk hn0
                  clear hn0
                  go_wp2_with fail
                  refine (times18_any T _ 48 (by decide) (by rfl) n0 HN0.out HSz2.out _ (HG.out.below (below_step HB.out (below_step HB1.out HB3.out)))).mono ?_
                  rintro e w4 ⟨rfl, hb⟩
                  replace HO3 := Aside0.mk (Kd.R_below HO3.out hb)
                  replace HB3 := Aside0.mk (below_step HB3.out hb)
                  clear hb
                  by_cases h0 : n0 = 1
                  case neg =>
                    have m1 : ((n0 : Int) == 1) = false := by simp; omega
                    have m2 : ((n0 : Int) != 1) = true := by simp; omega
                    have m3 : decide ((n0 : Int) = 1) = false := decide_eq_false (by omega)
                    have hE3 := HE2.out
                    rw [rowP_bad ⟨s, HMm.out, by unfold goodP; rw [← HTd.out, HN0.out, decide_eq_false h0]; rfl⟩, if_neg (show ¬ ((2 : Int) = 0) by decide)] at hE3
                    have HE3 := Aside0.mk hE3
                    have y0 := pw_cell_below (below_step HB1.out HB3.out) HX0.out
                    clear hE3 h0
                    go_wp2_with fail
                    go_quiet (fail)
                    go_wp2_with fail
                    go_ret3
                    exact ⟨by rw [← HE3.out]; exact .inr ⟨show (2 : Int) ≠ 0 by decide, rfl⟩, pw_below_drewN (below_step HB.out (below_step HB1.out HB3.out)) _⟩
                  subst h0
                  obtain ⟨n1, hn1⟩ : ∃ n, Lib.count T.data.toList [123, 49, 125] = n := ⟨_, rfl⟩
                  have HN1 := Aside0.mk hn1
                  clear hn1
                  go_wp2_with fail
                  refine (times18_any T _ 49 (by decide) (by rfl) n1 HN1.out HSz2.out _ (HG.out.below (below_step HB.out (below_step HB1.out HB3.out)))).mono ?_
                  rintro e w5 ⟨rfl, hb⟩
                  replace HO3 := Aside0.mk (Kd.R_below HO3.out hb)
                  replace HB3 := Aside0.mk (below_step HB3.out hb)
                  clear hb
                  by_cases h1 : n1 = 1
                  case neg =>
                    have m1 : ((n1 : Int) == 1) = false := by simp; omega
                    have m2 : ((n1 : Int) != 1) = true := by simp; omega
                    have m3 : decide ((n1 : Int) = 1) = false := decide_eq_false (by omega)
                    have hE3 := HE2.out
                    rw [rowP_bad ⟨s, HMm.out, by unfold goodP; rw [← HTd.out, HN1.out, decide_eq_false h1, Bool.and_false]⟩, if_neg (show ¬ ((2 : Int) = 0) by decide)] at hE3
                    have HE3 := Aside0.mk hE3
                    have y0 := pw_cell_below (below_step HB1.out HB3.out) HX0.out
                    clear hE3 h1
                    go_wp2_with fail
                    go_quiet (fail)
                    go_wp2_with fail
                    go_ret3
                    exact ⟨by rw [← HE3.out]; exact .inr ⟨show (2 : Int) ≠ 0 by decide, rfl⟩, pw_below_drewN (below_step HB.out (below_step HB1.out HB3.out)) _⟩
                  subst h1
                  have HGd2 : Aside0 (∀ s ∈ ts.take (q + 1 - 3), goodP (blankP s) = true) := ⟨fun s' hs' => by
                    rw [HTk.out] at hs'
                    rcases List.mem_append.1 hs' with hs' | hs'
                    · exact HGd.out s' hs'
                    · rw [List.mem_singleton.1 hs']
                      unfold goodP
                      rw [← HTd.out, HN0.out, HN1.out]
                      rfl⟩
                  have HAcc : Aside0 ((((ts.take (q - 3)).map blankP).map ofL) ++ [T] = ((ts.take (q + 1 - 3)).map blankP).map ofL) := ⟨by rw [HTk.out, List.map_append, List.map_append, ← HTT.out]; rfl⟩
                  have HLn : Aside0 ((((ts.take (q - 3)).map blankP).map ofL).length ≤ 4) := ⟨by rw [List.length_map, List.length_map, List.length_take]; have := HL4.out; omega⟩
                  generalize (((ts.take (q - 3)).map blankP).map ofL) = acc at HO3 HAcc HLn
                  go_wp2_with (first | ((with_reducible refine gate_builtin (b := .append) (xs := #[.tmp 78, .tmp 80]) rfl ?_); at_builtin; refine Kd.R_append Kd.string (w0 := w2) w2.heap.size rfl (.tmp 78) (.tmp 80) 29 9 (.string ⟨#[]⟩) 16 rfl Tryd.underlying29 PA.info9 rfl (by decide) (by omega) u8 acc T [.string T] (fun _ => True) (fun _ => False) rfl rfl ?aP (fun _ hk => hk.elim) ?aF ?aO ?aB ?aS ?aL ?_; (case aP => exact rfl); (case aB => exact HB3.out); (case aF => exact (fun _ _ => trivial)); (case aO => exact HO3.out); (case aS => exact (below_size HB3.out)); (case aL => have := HLn.out; omega); intro v6 w6 ho hb hg hat; have HO6 := Aside0.mk ho; have HB6 := Aside0.mk hb; clear ho hb hg hat))
                  exact ⟨⟨q + 1, by omega, by omega, by go_num, HGd2, ⟨by rw [← HAcc.out]; exact HO6.out⟩, HB6⟩, by simp [intOf]; omega⟩
                case neg =>
                  obtain rfl : q = 7 := by omega
                  have HGd2 : Aside0 (∀ s ∈ ts, goodP (blankP s) = true) := ⟨by have h := HGd.out; rwa [List.take_of_length_le (by have := HL4.out; omega)] at h⟩
                  have hO := HO.out
                  rw [List.take_of_length_le (by have := HL4.out; omega)] at hO
                  obtain ⟨A8, c8, rfl, hc8, hF8⟩ := HR.out.later hO (below_size HB1.out)
                  have hlen8 : ((ts.map blankP).map ofL).length = 4 := by rw [List.length_map, List.length_map, HL4.out]
                  rw [hlen8] at hc8 hF8 ⊢
                  have HF8 := Aside0.mk hF8
                  have HRq : Aside0 (RefAt wq w.heap.size w.heap.size vL vW vT (lsOf fs) (wsOf fs) (tsOf fs)) := ⟨HR.out.below (below_step HB1.out HBq.out)⟩
                  have HBXq : Aside0 (wq.heap[w.heap.size]? = some (.cells #[vL, vW, vT] 120 (0, 0))) := ⟨blk_below HBX.out (below_step HB1.out HBq.out)⟩
                  have HBw : Aside0 (Below w.heap.size w wq) := ⟨below_step HB.out (below_step HB1.out HBq.out)⟩
                  have HBr : Aside0 (Below wr.heap.size wr wq) := ⟨below_step HB1.out HBq.out⟩
                  have hE3 := HE2.out
                  rw [rowP_all ⟨HL4.out, HLa2.out, HLb2.out⟩ HGd2.out] at hE3
                  have HE3 := Aside0.mk hE3
                  obtain ⟨AL, cL, hvL, hcL, hCL⟩ := Kd.R_reads HRq.out.L
                  rw [lsOf_len] at hvL hcL hCL
                  obtain ⟨AW, cW, hvW, hcW, hCW⟩ := Kd.R_reads HRq.out.W
                  rw [wsOf_len] at hvW hcW hCW
                  obtain ⟨AT, cT, hvT, hcT, hCT⟩ := Kd.N_reads HRq.out.T
                  rw [tsOf_len] at hvT hcT hCT
                  have HCL := Aside0.mk hCL
                  have HCW := Aside0.mk hCW
                  subst hvL hvW hvT
                  have hfl : fs.length ≤ 1000 := by have := HF4.out.1; omega
                  clear hO hF8 hlen8 hE3 hCL hCW hCT HO HBq HGd HE2 HBX HR HB HB1 HC HCs hcT
                  go_wp2_with fail
                  go_loopw [11] (fun i wz => ∃ (q : Nat), q ≤ fs.length ∧ i = .int .i64 q ∧ Aside0 (∀ e ∈ fs.reverse.take q, e.1 ≠ (a, b)) ∧ Aside0 (Below wq.heap.size wq wz)) (fun i _ => fs.length - (intOf i).toNat)
                  case atStart => exact ⟨0, Nat.zero_le _, rfl, ⟨fun e he => by simp at he⟩, ⟨Below.refl _ _⟩⟩
                  case round =>
                    obtain ⟨q, hqn, rfl, HNe, HBz⟩ := hrel
                    rename World => wz
                    have x0 : wz.cell? ⟨w.heap.size, 0, none⟩ = some (.slice AL fs.length cL) := (blk_cell (blk_below HBXq.out HBz.out) 0).trans rfl
                    have x1 : wz.cell? ⟨w.heap.size, 1, none⟩ = some (.slice AW fs.length cW) := (blk_cell (blk_below HBXq.out HBz.out) 1).trans rfl
                    by_cases hqq : q < fs.length
                    case pos =>
                      obtain ⟨bL, oL, rfl, hcsL⟩ := C_strsD HCL.out (by omega)
                      obtain ⟨bW, oW, rfl, hcsW⟩ := C_strsD HCW.out (by omega)
                      have hyL := pw_cell_below HBz.out (hcsL q (by rw [lsOf_len]; exact hqq))
                      have hyW := pw_cell_below HBz.out (hcsW q (by rw [wsOf_len]; exact hqq))
                      obtain ⟨e, hem, eL, eW, _, etk⟩ := at_rev hqq
                      rw [eL] at hyL
                      rw [eW] at hyW
                      have hya := pw_cell_below (below_step HBr.out HBz.out) HX1.out
                      have hyb := pw_cell_below (below_step HBr.out HBz.out) HX2.out
                      have hqi : (q : Int) < (fs.length : Int) := by omega
                      have hq0 : (0 : Int) ≤ (q : Int) := by omega
                      have HCLs := Aside0.mk hcsL
                      have HCWs := Aside0.mk hcsW
                      have HTk := Aside0.mk etk
                      have hnext : e.1 ≠ (a, b) → ∀ e' ∈ fs.reverse.take (q + 1), e'.1 ≠ (a, b) := fun hne e' he' => by
                        rw [etk] at he'
                        rcases List.mem_append.1 he' with he' | he'
                        · exact HNe.out e' he'
                        · rw [List.mem_singleton.1 he']
                          exact hne
                      have HNx := Aside0.mk hnext
                      clear hcsL hcsW eL eW etk hnext
                      by_cases ha : e.1.1 = a
                      case neg =>
                        have HNN : Aside0 (∀ e' ∈ fs.reverse.take (q + 1), e'.1 ≠ (a, b)) := ⟨HNx.out (fun h => ha (by rw [h]))⟩
                        have f1 := str_ne ha
                        generalize ofL e.1.1 = X at hyL f1
                        generalize ofL a = Y at hya f1
                        clear ha hyb hyW x1
                        go_wp2_with fail
                        go_quiet (fail)
                        go_wp2_with fail
                        exact ⟨⟨q + 1, by omega, by go_num, HNN, ⟨pw_below_drewN HBz.out _⟩⟩, by simp [intOf]; omega⟩
                      have f1 : ((ofL e.1.1).toList == (ofL a).toList) = true := by rw [ha]; exact beq_self_eq_true _
                      have HA1 := Aside0.mk ha
                      clear ha
                      by_cases hb : e.1.2 = b
                      case neg =>
                        have HNN : Aside0 (∀ e' ∈ fs.reverse.take (q + 1), e'.1 ≠ (a, b)) := ⟨HNx.out (fun h => hb (by rw [h]))⟩
                        have f2 := str_ne hb
                        generalize ofL e.1.1 = X at hyL f1
                        generalize ofL a = Y at hya f1
                        generalize ofL e.1.2 = X2 at hyW f2
                        generalize ofL b = Y2 at hyb f2
                        clear hb
                        go_wp2_with fail
                        go_quiet (fail)
                        go_wp2_with fail
                        exact ⟨⟨q + 1, by omega, by go_num, HNN, ⟨pw_below_drewN HBz.out _⟩⟩, by simp [intOf]; omega⟩
                      have f2 : ((ofL e.1.2).toList == (ofL b).toList) = true := by rw [hb]; exact beq_self_eq_true _
                      have hE4 := HE3.out
                      obtain ⟨gx, hgx⟩ := getP_some (fs := fs) (k := (a, b)) ⟨e, hem, Prod.ext HA1.out hb⟩
                      rw [hgx, if_neg (show ¬ ((10 : Int) = 0) by decide)] at hE4
                      have HE4 := Aside0.mk hE4
                      have y0 := pw_cell_below (below_step HBr.out HBz.out) HX0.out
                      generalize ofL e.1.1 = X at hyL f1
                      generalize ofL a = Y at hya f1
                      generalize ofL e.1.2 = X2 at hyW f2
                      generalize ofL b = Y2 at hyb f2
                      clear hb hE4 hgx
                      go_wp2_with fail
                      go_quiet (fail)
                      go_wp2_with fail
                      go_quiet (fail)
                      go_wp2_with fail
                      go_ret3
                      exact ⟨by rw [← HE4.out]; exact .inr ⟨show (10 : Int) ≠ 0 by decide, rfl⟩, by first | exact pw_below_drewN (pw_below_drewN (below_step HBw.out HBz.out) _) _ | exact pw_below_drewN (below_step HBw.out HBz.out) _⟩
                    case neg =>
                      obtain rfl : fs.length = q := by omega
                      have hE4 := HE3.out
                      rw [getP_none (fs := fs) (k := (a, b)) (fun e he => HNe.out e (by rw [List.take_of_length_le (by rw [List.length_reverse]; omega)]; exact List.mem_reverse.2 he)), if_pos (show (0 : Int) = 0 from rfl)] at hE4
                      have HE4 : Aside0 (loadQ (rs.drop (j + 1)) (((a, b), ts.map blankP) :: fs) = res) := ⟨hE4⟩
                      clear hE4 HE3 hqq
                      have x2 : wz.cell? ⟨w.heap.size, 2, none⟩ = some (.slice AT fs.length cT) := (blk_cell (blk_below HBXq.out HBz.out) 2).trans rfl
                      have qR : Aside0 (RefAt wz.drew w.heap.size w.heap.size (.slice AL fs.length cL) (.slice AW fs.length cW) (.slice AT fs.length cT) (lsOf fs) (wsOf fs) (tsOf fs)) := ⟨HRq.out.below (below_drew HBz.out)⟩
                      have qX : Aside0 (wz.drew.heap[w.heap.size]? = some (.cells #[.slice AL fs.length cL, .slice AW fs.length cW, .slice AT fs.length cT] 120 (0, 0))) := ⟨blk_drew (blk_below HBXq.out HBz.out)⟩
                      have qW : Aside0 (Below w.heap.size w wz.drew) := ⟨below_drew (below_step HBw.out HBz.out)⟩
                      obtain ⟨tl, htl⟩ : ∃ x, (ts.map blankP).map ofL = x := ⟨_, rfl⟩
                      have hl4 : tl.length = 4 := by rw [← htl, List.length_map, List.length_map, HL4.out]
                      have q8 : Aside0 (Kd.FK kStrs wz.drew (apart (.slice AL fs.length cL) (.slice AW fs.length cW) (.slice AT fs.length cT) w.heap.size) tl [.slice A8 4 c8]) := ⟨by
                        have h1 := Kd.F_below HF8.out (below_drew HBz.out)
                        rw [htl] at h1
                        have h := Kd.FK_slice_mk (e := 9) (c := c8) (by rw [hl4]; exact hc8) (by rw [hl4]; exact h1)
                        rwa [hl4] at h⟩
                      have HTl := Aside0.mk htl
                      clear htl hl4 HF8 HBXq HRq HBz HBw HBr x1 x2 HCL HCW HX1 HX2 HX0
                      go_wp2_with fail
                      clear x0
                      refine start_ (n := 37) (S := fun w' => w'.cell? ⟨w.heap.size, 0, none⟩ = some (.slice AL fs.length cL) ∧ w'.cell? ⟨w.heap.size, 1, none⟩ = some (.slice AW fs.length cW) ∧ w'.cell? ⟨w.heap.size, 2, none⟩ = some (.slice AT fs.length cT) ∧ w'.cell? ⟨b1, o1 + 1, none⟩ = some (.string (ofL a)) ∧ w'.cell? ⟨b1, o1 + 2, none⟩ = some (.string (ofL b))) (ds := [30, 33, 36]) #[false, false, false, false, false, false, false, false, false, false, false, false, false, false, false, false, false, false, false, false, false, false, false, false, false, false, false, false, false, false, false, false, false, false, false, false, false] (by kernel_rfl) rfl rfl ⟨(blk_cell qX.out 0).trans rfl, (blk_cell qX.out 1).trans rfl, (blk_cell qX.out 2).trans rfl, pw_cell_below qW.out HW1.out, pw_cell_below qW.out HW2.out⟩ (fun hHeld => ?_)
                      refine pure_ (i := 0) (N := some 120) (v := ?_) (a' := ?_) #[true, false, false, false, false, false, false, false, false, false, false, false, false, false, false, false, false, false, false, false, false, false, false, false, false, false, false, false, false, false, false, false, false, false, false, false, false] rfl rfl (by kernel_rfl) (fun _ _ _ h => h) (Or.inl ⟨by rfl, ?_⟩) ?_ ?_
                      rotate_left
                      · intro w'
                        go_simp
                        with_reducible rfl
                      rotate_left
                      · simp only [Act.put, List.setIfInBounds_toArray, List.set_cons_zero, List.set_cons_succ, i64_w, i32_w]
                        rfl
                      refine pure_ (i := 1) (N := some 121) (v := ?_) (a' := ?_) #[true, true, false, false, false, false, false, false, false, false, false, false, false, false, false, false, false, false, false, false, false, false, false, false, false, false, false, false, false, false, false, false, false, false, false, false, false] rfl rfl (by kernel_rfl) (fun _ _ _ h => h) (Or.inl ⟨by rfl, ?_⟩) ?_ ?_
                      rotate_left
                      · intro w'
                        go_simp
                        with_reducible rfl
                      rotate_left
                      · simp only [Act.put, List.setIfInBounds_toArray, List.set_cons_zero, List.set_cons_succ, i64_w, i32_w]
                        rfl
                      refine pure_ (i := 2) (N := some 122) (v := ?_) (a' := ?_) #[true, true, true, false, false, false, false, false, false, false, false, false, false, false, false, false, false, false, false, false, false, false, false, false, false, false, false, false, false, false, false, false, false, false, false, false, false] rfl rfl (by kernel_rfl) (fun _ _ _ h => h) (Or.inl ⟨by rfl, ?_⟩) ?_ ?_
                      rotate_left
                      · intro w'
                        go_simp
                        with_reducible rfl
                      rotate_left
                      · simp only [Act.put, List.setIfInBounds_toArray, List.set_cons_zero, List.set_cons_succ, i64_w, i32_w]
                        rfl
                      refine pure_ (i := 3) (N := some 123) (v := ?_) (a' := ?_) #[true, true, true, true, false, false, false, false, false, false, false, false, false, false, false, false, false, false, false, false, false, false, false, false, false, false, false, false, false, false, false, false, false, false, false, false, false] rfl rfl (by kernel_rfl) (fun _ _ _ h => h) (Or.inl ⟨by rfl, ?_⟩) ?_ ?_
                      rotate_left
                      · intro w'
                        go_simp
                        with_reducible rfl
                      rotate_left
                      · simp only [Act.put, List.setIfInBounds_toArray, List.set_cons_zero, List.set_cons_succ, i64_w, i32_w]
                        rfl
                      refine pure_ (i := 4) (N := some 124) (v := ?_) (a' := ?_) #[true, true, true, true, true, false, false, false, false, false, false, false, false, false, false, false, false, false, false, false, false, false, false, false, false, false, false, false, false, false, false, false, false, false, false, false, false] rfl rfl (by kernel_rfl) (fun _ _ _ h => h) (Or.inl ⟨by rfl, ?_⟩) ?_ ?_
                      rotate_left
                      · intro w'
                        go_simp
                        with_reducible rfl
                      rotate_left
                      · simp only [Act.put, List.setIfInBounds_toArray, List.set_cons_zero, List.set_cons_succ, i64_w, i32_w]
                        rfl
                      refine pure_ (i := 5) (N := some 125) (v := ?_) (a' := ?_) #[true, true, true, true, true, true, false, false, false, false, false, false, false, false, false, false, false, false, false, false, false, false, false, false, false, false, false, false, false, false, false, false, false, false, false, false, false] rfl rfl (by kernel_rfl) (fun _ _ _ h => h) (Or.inl ⟨by rfl, ?_⟩) ?_ ?_
                      rotate_left
                      · intro w'
                        go_simp
                        with_reducible rfl
                      rotate_left
                      · simp only [Act.put, List.setIfInBounds_toArray, List.set_cons_zero, List.set_cons_succ, i64_w, i32_w]
                        rfl
                      refine pure_ (i := 7) (N := some 127) (v := ?_) (a' := ?_) #[true, true, true, true, true, true, false, true, false, false, false, false, false, false, false, false, false, false, false, false, false, false, false, false, false, false, false, false, false, false, false, false, false, false, false, false, false] rfl rfl (by kernel_rfl) (fun _ _ _ h => h) (Or.inl ⟨by rfl, ?_⟩) ?_ ?_
                      rotate_left
                      · intro w'
                        go_simp
                        with_reducible rfl
                      rotate_left
                      · simp only [Act.put, List.setIfInBounds_toArray, List.set_cons_zero, List.set_cons_succ, i64_w, i32_w]
                        rfl
                      refine pure_ (i := 8) (N := some 128) (v := ?_) (a' := ?_) #[true, true, true, true, true, true, false, true, true, false, false, false, false, false, false, false, false, false, false, false, false, false, false, false, false, false, false, false, false, false, false, false, false, false, false, false, false] rfl rfl (by kernel_rfl) (fun _ _ _ h => h) (Or.inl ⟨by rfl, ?_⟩) ?_ ?_
                      rotate_left
                      · intro w'
                        go_simp
                        with_reducible rfl
                      rotate_left
                      · simp only [Act.put, List.setIfInBounds_toArray, List.set_cons_zero, List.set_cons_succ, i64_w, i32_w]
                        rfl
                      refine pure_ (i := 12) (N := some 132) (v := ?_) (a' := ?_) #[true, true, true, true, true, true, false, true, true, false, false, false, true, false, false, false, false, false, false, false, false, false, false, false, false, false, false, false, false, false, false, false, false, false, false, false, false] rfl rfl (by kernel_rfl) (fun _ _ _ h => h) (Or.inl ⟨by rfl, ?_⟩) ?_ ?_
                      rotate_left
                      · intro w'
                        go_simp
                        with_reducible rfl
                      rotate_left
                      · simp only [Act.put, List.setIfInBounds_toArray, List.set_cons_zero, List.set_cons_succ, i64_w, i32_w]
                        rfl
                      refine pure_ (i := 13) (N := some 133) (v := ?_) (a' := ?_) #[true, true, true, true, true, true, false, true, true, false, false, false, true, true, false, false, false, false, false, false, false, false, false, false, false, false, false, false, false, false, false, false, false, false, false, false, false] rfl rfl (by kernel_rfl) (fun _ _ _ h => h) (Or.inl ⟨by rfl, ?_⟩) ?_ ?_
                      rotate_left
                      · intro w'
                        go_simp
                        with_reducible rfl
                      rotate_left
                      · simp only [Act.put, List.setIfInBounds_toArray, List.set_cons_zero, List.set_cons_succ, i64_w, i32_w]
                        rfl
                      refine pure_ (i := 14) (N := some 134) (v := ?_) (a' := ?_) #[true, true, true, true, true, true, false, true, true, false, false, false, true, true, true, false, false, false, false, false, false, false, false, false, false, false, false, false, false, false, false, false, false, false, false, false, false] rfl rfl (by kernel_rfl) (fun _ _ _ h => h) (Or.inl ⟨by rfl, ?_⟩) ?_ ?_
                      rotate_left
                      · intro w'
                        go_simp
                        with_reducible rfl
                      rotate_left
                      · simp only [Act.put, List.setIfInBounds_toArray, List.set_cons_zero, List.set_cons_succ, i64_w, i32_w]
                        rfl
                      refine pure_ (i := 16) (N := some 136) (v := ?_) (a' := ?_) #[true, true, true, true, true, true, false, true, true, false, false, false, true, true, true, false, true, false, false, false, false, false, false, false, false, false, false, false, false, false, false, false, false, false, false, false, false] rfl rfl (by kernel_rfl) (fun _ _ _ h => h) (Or.inl ⟨by rfl, ?_⟩) ?_ ?_
                      rotate_left
                      · intro w'
                        go_simp
                        with_reducible rfl
                      rotate_left
                      · simp only [Act.put, List.setIfInBounds_toArray, List.set_cons_zero, List.set_cons_succ, i64_w, i32_w]
                        rfl
                      refine pure_ (i := 17) (N := some 137) (v := ?_) (a' := ?_) #[true, true, true, true, true, true, false, true, true, false, false, false, true, true, true, false, true, true, false, false, false, false, false, false, false, false, false, false, false, false, false, false, false, false, false, false, false] rfl rfl (by kernel_rfl) (fun _ _ _ h => h) (Or.inl ⟨by rfl, ?_⟩) ?_ ?_
                      rotate_left
                      · intro w'
                        go_simp
                        with_reducible rfl
                      rotate_left
                      · simp only [Act.put, List.setIfInBounds_toArray, List.set_cons_zero, List.set_cons_succ, i64_w, i32_w]
                        rfl
                      refine pure_ (i := 21) (N := some 141) (v := ?_) (a' := ?_) #[true, true, true, true, true, true, false, true, true, false, false, false, true, true, true, false, true, true, false, false, false, true, false, false, false, false, false, false, false, false, false, false, false, false, false, false, false] rfl rfl (by kernel_rfl) (fun _ _ _ h => h) (Or.inl ⟨by rfl, ?_⟩) ?_ ?_
                      rotate_left
                      · intro w'
                        go_simp
                        with_reducible rfl
                      rotate_left
                      · simp only [Act.put, List.setIfInBounds_toArray, List.set_cons_zero, List.set_cons_succ, i64_w, i32_w]
                        rfl
                      refine pure_ (i := 22) (N := some 142) (v := ?_) (a' := ?_) #[true, true, true, true, true, true, false, true, true, false, false, false, true, true, true, false, true, true, false, false, false, true, true, false, false, false, false, false, false, false, false, false, false, false, false, false, false] rfl rfl (by kernel_rfl) (fun _ _ _ h => h) (Or.inl ⟨by rfl, ?_⟩) ?_ ?_
                      rotate_left
                      · intro w'
                        go_simp
                        with_reducible rfl
                      rotate_left
                      · simp only [Act.put, List.setIfInBounds_toArray, List.set_cons_zero, List.set_cons_succ, i64_w, i32_w]
                        rfl
                      refine pure_ (i := 23) (N := some 143) (v := ?_) (a' := ?_) #[true, true, true, true, true, true, false, true, true, false, false, false, true, true, true, false, true, true, false, false, false, true, true, true, false, false, false, false, false, false, false, false, false, false, false, false, false] rfl rfl (by kernel_rfl) (fun _ _ _ h => h) (Or.inl ⟨by rfl, ?_⟩) ?_ ?_
                      rotate_left
                      · intro w'
                        go_simp
                        with_reducible rfl
                      rotate_left
                      · simp only [Act.put, List.setIfInBounds_toArray, List.set_cons_zero, List.set_cons_succ, i64_w, i32_w]
                        rfl
                      refine pure_ (i := 25) (N := some 145) (v := ?_) (a' := ?_) #[true, true, true, true, true, true, false, true, true, false, false, false, true, true, true, false, true, true, false, false, false, true, true, true, false, true, false, false, false, false, false, false, false, false, false, false, false] rfl rfl (by kernel_rfl) (fun _ _ _ h => h) (Or.inl ⟨by rfl, ?_⟩) ?_ ?_
                      rotate_left
                      · intro w'
                        go_simp
                        with_reducible rfl
                      rotate_left
                      · simp only [Act.put, List.setIfInBounds_toArray, List.set_cons_zero, List.set_cons_succ, i64_w, i32_w]
                        rfl
                      refine take_ (i := 6) (N := some 126) (v := ?_) (a' := ?_) #[true, true, true, true, true, true, true, true, true, false, false, false, true, true, true, false, true, true, false, false, false, true, true, true, false, true, false, false, false, false, false, false, false, false, false, false, false] rfl rfl (by kernel_rfl) (fun _ _ _ h => h) (Or.inl ⟨by rfl, ?_⟩) hHeld ?_ ?_
                      rotate_left
                      · rintro w' ⟨s0, s1, s2, s3, s4⟩
                        go_simp
                        with_reducible rfl
                      rotate_left
                      · simp only [Act.put, List.setIfInBounds_toArray, List.set_cons_zero, List.set_cons_succ, i64_w, i32_w]
                        rfl
                      refine take_ (i := 9) (N := some 129) (v := ?_) (a' := ?_) #[true, true, true, true, true, true, true, true, true, true, false, false, true, true, true, false, true, true, false, false, false, true, true, true, false, true, false, false, false, false, false, false, false, false, false, false, false] rfl rfl (by kernel_rfl) (fun _ _ _ h => h) (Or.inl ⟨by rfl, ?_⟩) hHeld ?_ ?_
                      rotate_left
                      · rintro w' ⟨s0, s1, s2, s3, s4⟩
                        go_simp
                        with_reducible rfl
                      rotate_left
                      · simp only [Act.put, List.setIfInBounds_toArray, List.set_cons_zero, List.set_cons_succ, i64_w, i32_w]
                        rfl
                      refine take_ (i := 15) (N := some 135) (v := ?_) (a' := ?_) #[true, true, true, true, true, true, true, true, true, true, false, false, true, true, true, true, true, true, false, false, false, true, true, true, false, true, false, false, false, false, false, false, false, false, false, false, false] rfl rfl (by kernel_rfl) (fun _ _ _ h => h) (Or.inl ⟨by rfl, ?_⟩) hHeld ?_ ?_
                      rotate_left
                      · rintro w' ⟨s0, s1, s2, s3, s4⟩
                        go_simp
                        with_reducible rfl
                      rotate_left
                      · simp only [Act.put, List.setIfInBounds_toArray, List.set_cons_zero, List.set_cons_succ, i64_w, i32_w]
                        rfl
                      refine take_ (i := 18) (N := some 138) (v := ?_) (a' := ?_) #[true, true, true, true, true, true, true, true, true, true, false, false, true, true, true, true, true, true, true, false, false, true, true, true, false, true, false, false, false, false, false, false, false, false, false, false, false] rfl rfl (by kernel_rfl) (fun _ _ _ h => h) (Or.inl ⟨by rfl, ?_⟩) hHeld ?_ ?_
                      rotate_left
                      · rintro w' ⟨s0, s1, s2, s3, s4⟩
                        go_simp
                        with_reducible rfl
                      rotate_left
                      · simp only [Act.put, List.setIfInBounds_toArray, List.set_cons_zero, List.set_cons_succ, i64_w, i32_w]
                        rfl
                      refine take_ (i := 24) (N := some 144) (v := ?_) (a' := ?_) #[true, true, true, true, true, true, true, true, true, true, false, false, true, true, true, true, true, true, true, false, false, true, true, true, true, true, false, false, false, false, false, false, false, false, false, false, false] rfl rfl (by kernel_rfl) (fun _ _ _ h => h) (Or.inl ⟨by rfl, ?_⟩) hHeld ?_ ?_
                      rotate_left
                      · rintro w' ⟨s0, s1, s2, s3, s4⟩
                        go_simp
                        with_reducible rfl
                      rotate_left
                      · simp only [Act.put, List.setIfInBounds_toArray, List.set_cons_zero, List.set_cons_succ, i64_w, i32_w]
                        rfl
                      refine join_ (σ := Value × Value × Value × Value × Option Addr × Nat) 10 #[true, true, true, true, true, true, true, true, true, true, true, true, true, true, true, true, true, true, true, true, true, true, true, true, true, true, true, false, false, false, false, false, false, false, false, false, false] (fun s => [(130, s.1), (131, s.2.1), (139, s.2.2.1), (140, s.2.2.2.1), (146, .slice s.2.2.2.2.1 [tl].length s.2.2.2.2.2)]) (fun s w' => RefAt w' w.heap.size w.heap.size s.2.1 s.2.2.2.1 (.slice AT fs.length cT) (lsOf fs ++ [ofL a]) (wsOf fs ++ [ofL b]) (tsOf fs) ∧ w'.heap[w.heap.size]? = some (.cells #[(.slice AL fs.length cL), (.slice AW fs.length cW), (.slice AT fs.length cT)] 120 (0, 0)) ∧ Below w.heap.size w w' ∧ Kd.F kStrs w' (apart s.2.1 s.2.2.2.1 (.slice AT fs.length cT) w.heap.size) s.2.2.2.2.1 [tl].length [tl]) ?_ ?_
                      rotate_left
                      · intro hCont
                        refine three_ (i := 10) (j := 19) (k := 26) (Ni := some 130) (Nj := some 139) (Nk := some 146) #[true, true, true, true, true, true, true, true, true, true, true, false, true, true, true, true, true, true, true, false, false, true, true, true, true, true, false, false, false, false, false, false, false, false, false, false, false] #[true, true, true, true, true, true, true, true, true, true, false, false, true, true, true, true, true, true, true, true, false, true, true, true, true, true, false, false, false, false, false, false, false, false, false, false, false] #[true, true, true, true, true, true, true, true, true, true, false, false, true, true, true, true, true, true, true, false, false, true, true, true, true, true, true, false, false, false, false, false, false, false, false, false, false] rfl rfl rfl rfl rfl rfl (by kernel_rfl) (by decide) (by decide) (by decide) (fun K hK => ?_) (fun K hK => ?_) (fun K hK => ?_)
                        · skip
                          refine Kd.R_lit_step Kd.string (w0 := w) w.heap.size 9 (by rfl) (N := 130) rfl (xs := ([ofL a] : List ByteArray)) (inner := [.string (ofL a)]) (ok := (apart (.slice AL fs.length cL) (.slice AW fs.length cW) (.slice AT fs.length cT) w.heap.size)) (okp := fun _ => False) ?hr (Reps.one (show Kd.M Kd.string _ _ _ (ofL a) [.string (ofL a)] from rfl) (Reps.none _ _)) (fun _ hk => hk.elim) (qR.out.fresh (Nat.le_refl _)) qW.out (below_size qW.out) (by simp) ?_
                          (case hr => first | (go_simp; done) | (go_simp; rfl))
                          intro v130 w130 ho hb hg hn
                          obtain ⟨A130, c130, rfl, hc130, _⟩ := Kd.R_reads ho
                          have p1 := Aside0.mk (Kd.R_F ho)
                          have hbN := below_noneR hg hb qW.out
                          replace qX := Aside0.mk (blk_below qX.out hbN)
                          replace qR := Aside0.mk (qR.out.below hbN)
                          replace q8 := Aside0.mk (foot_below q8.out hbN)
                          replace qW := Aside0.mk hb
                          clear ho hb hg hn hbN hc130
                          refine hK.out _ _ ⟨(blk_cell qX.out 0).trans rfl, (blk_cell qX.out 1).trans rfl, (blk_cell qX.out 2).trans rfl, pw_cell_below qW.out HW1.out, pw_cell_below qW.out HW2.out⟩ (fun hHeld => ?_)
                          clear hK K
                          refine norm_ (a' := ?_) ?_ ?_
                          rotate_left
                          · show Act.put _ (some 130) _ = _
                            simp only [Act.put, List.setIfInBounds_toArray, List.set_cons_zero, List.set_cons_succ, i64_w, i32_w]
                            rfl
                          refine three_ (i := 11) (j := 19) (k := 26) (Ni := some 131) (Nj := some 139) (Nk := some 146) #[true, true, true, true, true, true, true, true, true, true, true, true, true, true, true, true, true, true, true, false, false, true, true, true, true, true, false, false, false, false, false, false, false, false, false, false, false] #[true, true, true, true, true, true, true, true, true, true, true, false, true, true, true, true, true, true, true, true, false, true, true, true, true, true, false, false, false, false, false, false, false, false, false, false, false] #[true, true, true, true, true, true, true, true, true, true, true, false, true, true, true, true, true, true, true, false, false, true, true, true, true, true, true, false, false, false, false, false, false, false, false, false, false] rfl rfl rfl rfl rfl rfl (by kernel_rfl) (by decide) (by decide) (by decide) (fun K hK => ?_) (fun K hK => ?_) (fun K hK => ?_)
                          · skip
                            refine Kd.R_append_rows_step Kd.string (w0 := w) w.heap.size (by rfl) (.tmp 126) (.tmp 130) 29 9 (.string ⟨#[]⟩) 16 rfl Tryd.underlying29 PA.info9 rfl (by decide) (by omega) (.slice AL fs.length cL) (lsOf fs) [ofL a] A130 [ofL a].length c130 (fun _ => True) (fun _ => False) (by rfl) (by rfl) qR.out.L (Kd.F_now p1.out) (fun _ _ h_ => h_) (fun _ h_ => h_.elim) (fun _ _ => trivial) qW.out (below_size qW.out) (by rw [lsOf_len]; simp only [List.length_cons, List.length_nil]; omega) ?_
                            intro v131 w131 ho hb hg hn
                            clear p1
                            replace q8 := Aside0.mk (foot_L q8.out hg hn)
                            replace qX := Aside0.mk (blk_grown qX.out hg qR.out.B_L)
                            replace qR := Aside0.mk (qR.out.appL ho hg hn)
                            replace qW := Aside0.mk hb
                            clear ho hb hg hn
                            refine hK.out _ _ ⟨(blk_cell qX.out 0).trans rfl, (blk_cell qX.out 1).trans rfl, (blk_cell qX.out 2).trans rfl, pw_cell_below qW.out HW1.out, pw_cell_below qW.out HW2.out⟩ (fun hHeld => ?_)
                            clear hK K
                            refine norm_ (a' := ?_) ?_ ?_
                            rotate_left
                            · show Act.put _ (some 131) _ = _
                              simp only [Act.put, List.setIfInBounds_toArray, List.set_cons_zero, List.set_cons_succ, i64_w, i32_w]
                              rfl
                            refine two_ (i := 19) (j := 26) (Ni := some 139) (Nj := some 146) #[true, true, true, true, true, true, true, true, true, true, true, true, true, true, true, true, true, true, true, true, false, true, true, true, true, true, false, false, false, false, false, false, false, false, false, false, false] #[true, true, true, true, true, true, true, true, true, true, true, true, true, true, true, true, true, true, true, false, false, true, true, true, true, true, true, false, false, false, false, false, false, false, false, false, false] rfl rfl rfl rfl (by kernel_rfl) (by decide) (by decide) (fun K hK => ?_) (fun K hK => ?_)
                            · skip
                              refine Kd.R_lit_step Kd.string (w0 := w) w.heap.size 9 (by rfl) (N := 139) rfl (xs := ([ofL b] : List ByteArray)) (inner := [.string (ofL b)]) (ok := (apart v131 (.slice AW fs.length cW) (.slice AT fs.length cT) w.heap.size)) (okp := fun _ => False) ?hr (Reps.one (show Kd.M Kd.string _ _ _ (ofL b) [.string (ofL b)] from rfl) (Reps.none _ _)) (fun _ hk => hk.elim) (qR.out.fresh (Nat.le_refl _)) qW.out (below_size qW.out) (by simp) ?_
                              (case hr => first | (go_simp; done) | (go_simp; rfl))
                              intro v139 w139 ho hb hg hn
                              obtain ⟨A139, c139, rfl, hc139, _⟩ := Kd.R_reads ho
                              have p2 := Aside0.mk (Kd.R_F ho)
                              have hbN := below_noneR hg hb qW.out
                              replace qX := Aside0.mk (blk_below qX.out hbN)
                              replace qR := Aside0.mk (qR.out.below hbN)
                              replace q8 := Aside0.mk (foot_below q8.out hbN)
                              replace qW := Aside0.mk hb
                              clear ho hb hg hn hbN hc139
                              refine hK.out _ _ ⟨(blk_cell qX.out 0).trans rfl, (blk_cell qX.out 1).trans rfl, (blk_cell qX.out 2).trans rfl, pw_cell_below qW.out HW1.out, pw_cell_below qW.out HW2.out⟩ (fun hHeld => ?_)
                              clear hK K
                              refine norm_ (a' := ?_) ?_ ?_
                              rotate_left
                              · show Act.put _ (some 139) _ = _
                                simp only [Act.put, List.setIfInBounds_toArray, List.set_cons_zero, List.set_cons_succ, i64_w, i32_w]
                                rfl
                              refine two_ (i := 20) (j := 26) (Ni := some 140) (Nj := some 146) #[true, true, true, true, true, true, true, true, true, true, true, true, true, true, true, true, true, true, true, true, true, true, true, true, true, true, false, false, false, false, false, false, false, false, false, false, false] #[true, true, true, true, true, true, true, true, true, true, true, true, true, true, true, true, true, true, true, true, false, true, true, true, true, true, true, false, false, false, false, false, false, false, false, false, false] rfl rfl rfl rfl (by kernel_rfl) (by decide) (by decide) (fun K hK => ?_) (fun K hK => ?_)
                              · skip
                                refine Kd.R_append_rows_step Kd.string (w0 := w) w.heap.size (by rfl) (.tmp 135) (.tmp 139) 29 9 (.string ⟨#[]⟩) 16 rfl Tryd.underlying29 PA.info9 rfl (by decide) (by omega) (.slice AW fs.length cW) (wsOf fs) [ofL b] A139 [ofL b].length c139 (fun _ => True) (fun _ => False) (by rfl) (by rfl) qR.out.W (Kd.F_now p2.out) (fun _ _ h_ => h_) (fun _ h_ => h_.elim) (fun _ _ => trivial) qW.out (below_size qW.out) (by rw [wsOf_len]; simp only [List.length_cons, List.length_nil]; omega) ?_
                                intro v140 w140 ho hb hg hn
                                clear p2
                                replace q8 := Aside0.mk (foot_W q8.out hg hn)
                                replace qX := Aside0.mk (blk_grown qX.out hg qR.out.B_W)
                                replace qR := Aside0.mk (qR.out.appW ho hg hn)
                                replace qW := Aside0.mk hb
                                clear ho hb hg hn
                                refine hK.out _ _ ⟨(blk_cell qX.out 0).trans rfl, (blk_cell qX.out 1).trans rfl, (blk_cell qX.out 2).trans rfl, pw_cell_below qW.out HW1.out, pw_cell_below qW.out HW2.out⟩ (fun hHeld => ?_)
                                clear hK K
                                refine norm_ (a' := ?_) ?_ ?_
                                rotate_left
                                · show Act.put _ (some 140) _ = _
                                  simp only [Act.put, List.setIfInBounds_toArray, List.set_cons_zero, List.set_cons_succ, i64_w, i32_w]
                                  rfl
                                refine one_ (i := 26) (N := some 146) #[true, true, true, true, true, true, true, true, true, true, true, true, true, true, true, true, true, true, true, true, true, true, true, true, true, true, true, false, false, false, false, false, false, false, false, false, false] rfl rfl (by kernel_rfl) (by decide) (fun K hK => ?_)
                                refine Kd.N_lit_step kStrs (w0 := w) w.heap.size 29 (by rfl) (N' := 146) rfl (xs := ([tl] : List (List ByteArray))) (inner := [.slice A8 4 c8]) (ok := (apart v131 v140 (.slice AT fs.length cT) w.heap.size)) (okp := (apart v131 v140 (.slice AT fs.length cT) w.heap.size)) ?hr (Reps.one q8.out (Reps.none _ _)) (fun _ hk => hk) (qR.out.fresh (Nat.le_refl _)) qW.out (below_size qW.out) (by simp) ?_
                                (case hr => first | (go_simp; done) | (go_simp; rfl))
                                intro v146 w146 ho hb hg hn
                                obtain ⟨A146, c146, rfl, hc146, _⟩ := Kd.N_reads ho
                                have p3 := Aside0.mk (Kd.N_F ho)
                                have hbN := below_noneR hg hb qW.out
                                replace qX := Aside0.mk (blk_below qX.out hbN)
                                replace qR := Aside0.mk (qR.out.below hbN)
                                replace q8 := Aside0.mk (foot_below q8.out hbN)
                                replace qW := Aside0.mk hb
                                clear ho hb hg hn hbN hc146
                                refine hK.out _ _ ⟨(blk_cell qX.out 0).trans rfl, (blk_cell qX.out 1).trans rfl, (blk_cell qX.out 2).trans rfl, pw_cell_below qW.out HW1.out, pw_cell_below qW.out HW2.out⟩ (fun hHeld => ?_)
                                clear hK K
                                refine norm_ (a' := ?_) ?_ ?_
                                rotate_left
                                · show Act.put _ (some 146) _ = _
                                  simp only [Act.put, List.setIfInBounds_toArray, List.set_cons_zero, List.set_cons_succ, i64_w, i32_w]
                                  rfl
                                exact norm_ (by simp only [putAll, Act.put, List.setIfInBounds_toArray, List.set_cons_zero, List.set_cons_succ]) (hCont (.slice A130 [ofL a].length c130, v131, .slice A139 [ofL b].length c139, v140, A146, c146) _ ⟨qR.out, qX.out, qW.out, p3.out⟩)
                              · skip
                                refine Kd.N_lit_step kStrs (w0 := w) w.heap.size 29 (by rfl) (N' := 146) rfl (xs := ([tl] : List (List ByteArray))) (inner := [.slice A8 4 c8]) (ok := (apart v131 (.slice AW fs.length cW) (.slice AT fs.length cT) w.heap.size)) (okp := (apart v131 (.slice AW fs.length cW) (.slice AT fs.length cT) w.heap.size)) ?hr (Reps.one q8.out (Reps.none _ _)) (fun _ hk => hk) (qR.out.fresh (Nat.le_refl _)) qW.out (below_size qW.out) (by simp) ?_
                                (case hr => first | (go_simp; done) | (go_simp; rfl))
                                intro v146 w146 ho hb hg hn
                                obtain ⟨A146, c146, rfl, hc146, _⟩ := Kd.N_reads ho
                                have p3 := Aside0.mk (Kd.N_F ho)
                                have hbN := below_noneR hg hb qW.out
                                replace qX := Aside0.mk (blk_below qX.out hbN)
                                replace qR := Aside0.mk (qR.out.below hbN)
                                replace q8 := Aside0.mk (foot_below q8.out hbN)
                                replace p2 := Aside0.mk (foot_below p2.out hbN)
                                replace qW := Aside0.mk hb
                                clear ho hb hg hn hbN hc146
                                refine hK.out _ _ ⟨(blk_cell qX.out 0).trans rfl, (blk_cell qX.out 1).trans rfl, (blk_cell qX.out 2).trans rfl, pw_cell_below qW.out HW1.out, pw_cell_below qW.out HW2.out⟩ (fun hHeld => ?_)
                                clear hK K
                                refine norm_ (a' := ?_) ?_ ?_
                                rotate_left
                                · show Act.put _ (some 146) _ = _
                                  simp only [Act.put, List.setIfInBounds_toArray, List.set_cons_zero, List.set_cons_succ, i64_w, i32_w]
                                  rfl
                                refine one_ (i := 20) (N := some 140) #[true, true, true, true, true, true, true, true, true, true, true, true, true, true, true, true, true, true, true, true, true, true, true, true, true, true, true, false, false, false, false, false, false, false, false, false, false] rfl rfl (by kernel_rfl) (by decide) (fun K hK => ?_)
                                refine Kd.R_append_rows_step Kd.string (w0 := w) w.heap.size (by rfl) (.tmp 135) (.tmp 139) 29 9 (.string ⟨#[]⟩) 16 rfl Tryd.underlying29 PA.info9 rfl (by decide) (by omega) (.slice AW fs.length cW) (wsOf fs) [ofL b] A139 [ofL b].length c139 (fun _ => True) (fun _ => False) (by rfl) (by rfl) qR.out.W (Kd.F_now p2.out) (fun _ _ h_ => h_) (fun _ h_ => h_.elim) (fun _ _ => trivial) qW.out (below_size qW.out) (by rw [wsOf_len]; simp only [List.length_cons, List.length_nil]; omega) ?_
                                intro v140 w140 ho hb hg hn
                                clear p2
                                replace p3 := Aside0.mk (foot_W p3.out hg hn)
                                replace q8 := Aside0.mk (foot_W q8.out hg hn)
                                replace qX := Aside0.mk (blk_grown qX.out hg qR.out.B_W)
                                replace qR := Aside0.mk (qR.out.appW ho hg hn)
                                replace qW := Aside0.mk hb
                                clear ho hb hg hn
                                refine hK.out _ _ ⟨(blk_cell qX.out 0).trans rfl, (blk_cell qX.out 1).trans rfl, (blk_cell qX.out 2).trans rfl, pw_cell_below qW.out HW1.out, pw_cell_below qW.out HW2.out⟩ (fun hHeld => ?_)
                                clear hK K
                                refine norm_ (a' := ?_) ?_ ?_
                                rotate_left
                                · show Act.put _ (some 140) _ = _
                                  simp only [Act.put, List.setIfInBounds_toArray, List.set_cons_zero, List.set_cons_succ, i64_w, i32_w]
                                  rfl
                                exact norm_ (by simp only [putAll, Act.put, List.setIfInBounds_toArray, List.set_cons_zero, List.set_cons_succ]) (hCont (.slice A130 [ofL a].length c130, v131, .slice A139 [ofL b].length c139, v140, A146, c146) _ ⟨qR.out, qX.out, qW.out, p3.out⟩)
                            · skip
                              refine Kd.N_lit_step kStrs (w0 := w) w.heap.size 29 (by rfl) (N' := 146) rfl (xs := ([tl] : List (List ByteArray))) (inner := [.slice A8 4 c8]) (ok := (apart v131 (.slice AW fs.length cW) (.slice AT fs.length cT) w.heap.size)) (okp := (apart v131 (.slice AW fs.length cW) (.slice AT fs.length cT) w.heap.size)) ?hr (Reps.one q8.out (Reps.none _ _)) (fun _ hk => hk) (qR.out.fresh (Nat.le_refl _)) qW.out (below_size qW.out) (by simp) ?_
                              (case hr => first | (go_simp; done) | (go_simp; rfl))
                              intro v146 w146 ho hb hg hn
                              obtain ⟨A146, c146, rfl, hc146, _⟩ := Kd.N_reads ho
                              have p3 := Aside0.mk (Kd.N_F ho)
                              have hbN := below_noneR hg hb qW.out
                              replace qX := Aside0.mk (blk_below qX.out hbN)
                              replace qR := Aside0.mk (qR.out.below hbN)
                              replace q8 := Aside0.mk (foot_below q8.out hbN)
                              replace qW := Aside0.mk hb
                              clear ho hb hg hn hbN hc146
                              refine hK.out _ _ ⟨(blk_cell qX.out 0).trans rfl, (blk_cell qX.out 1).trans rfl, (blk_cell qX.out 2).trans rfl, pw_cell_below qW.out HW1.out, pw_cell_below qW.out HW2.out⟩ (fun hHeld => ?_)
                              clear hK K
                              refine norm_ (a' := ?_) ?_ ?_
                              rotate_left
                              · show Act.put _ (some 146) _ = _
                                simp only [Act.put, List.setIfInBounds_toArray, List.set_cons_zero, List.set_cons_succ, i64_w, i32_w]
                                rfl
                              refine one_ (i := 19) (N := some 139) #[true, true, true, true, true, true, true, true, true, true, true, true, true, true, true, true, true, true, true, true, false, true, true, true, true, true, true, false, false, false, false, false, false, false, false, false, false] rfl rfl (by kernel_rfl) (by decide) (fun K hK => ?_)
                              refine Kd.R_lit_step Kd.string (w0 := w) w.heap.size 9 (by rfl) (N := 139) rfl (xs := ([ofL b] : List ByteArray)) (inner := [.string (ofL b)]) (ok := (apart v131 (.slice AW fs.length cW) (.slice AT fs.length cT) w.heap.size)) (okp := fun _ => False) ?hr (Reps.one (show Kd.M Kd.string _ _ _ (ofL b) [.string (ofL b)] from rfl) (Reps.none _ _)) (fun _ hk => hk.elim) (qR.out.fresh (Nat.le_refl _)) qW.out (below_size qW.out) (by simp) ?_
                              (case hr => first | (go_simp; done) | (go_simp; rfl))
                              intro v139 w139 ho hb hg hn
                              obtain ⟨A139, c139, rfl, hc139, _⟩ := Kd.R_reads ho
                              have p2 := Aside0.mk (Kd.R_F ho)
                              have hbN := below_noneR hg hb qW.out
                              replace qX := Aside0.mk (blk_below qX.out hbN)
                              replace qR := Aside0.mk (qR.out.below hbN)
                              replace q8 := Aside0.mk (foot_below q8.out hbN)
                              replace p3 := Aside0.mk (foot_below p3.out hbN)
                              replace qW := Aside0.mk hb
                              clear ho hb hg hn hbN hc139
                              refine hK.out _ _ ⟨(blk_cell qX.out 0).trans rfl, (blk_cell qX.out 1).trans rfl, (blk_cell qX.out 2).trans rfl, pw_cell_below qW.out HW1.out, pw_cell_below qW.out HW2.out⟩ (fun hHeld => ?_)
                              clear hK K
                              refine norm_ (a' := ?_) ?_ ?_
                              rotate_left
                              · show Act.put _ (some 139) _ = _
                                simp only [Act.put, List.setIfInBounds_toArray, List.set_cons_zero, List.set_cons_succ, i64_w, i32_w]
                                rfl
                              refine one_ (i := 20) (N := some 140) #[true, true, true, true, true, true, true, true, true, true, true, true, true, true, true, true, true, true, true, true, true, true, true, true, true, true, true, false, false, false, false, false, false, false, false, false, false] rfl rfl (by kernel_rfl) (by decide) (fun K hK => ?_)
                              refine Kd.R_append_rows_step Kd.string (w0 := w) w.heap.size (by rfl) (.tmp 135) (.tmp 139) 29 9 (.string ⟨#[]⟩) 16 rfl Tryd.underlying29 PA.info9 rfl (by decide) (by omega) (.slice AW fs.length cW) (wsOf fs) [ofL b] A139 [ofL b].length c139 (fun _ => True) (fun _ => False) (by rfl) (by rfl) qR.out.W (Kd.F_now p2.out) (fun _ _ h_ => h_) (fun _ h_ => h_.elim) (fun _ _ => trivial) qW.out (below_size qW.out) (by rw [wsOf_len]; simp only [List.length_cons, List.length_nil]; omega) ?_
                              intro v140 w140 ho hb hg hn
                              clear p2
                              replace p3 := Aside0.mk (foot_W p3.out hg hn)
                              replace q8 := Aside0.mk (foot_W q8.out hg hn)
                              replace qX := Aside0.mk (blk_grown qX.out hg qR.out.B_W)
                              replace qR := Aside0.mk (qR.out.appW ho hg hn)
                              replace qW := Aside0.mk hb
                              clear ho hb hg hn
                              refine hK.out _ _ ⟨(blk_cell qX.out 0).trans rfl, (blk_cell qX.out 1).trans rfl, (blk_cell qX.out 2).trans rfl, pw_cell_below qW.out HW1.out, pw_cell_below qW.out HW2.out⟩ (fun hHeld => ?_)
                              clear hK K
                              refine norm_ (a' := ?_) ?_ ?_
                              rotate_left
                              · show Act.put _ (some 140) _ = _
                                simp only [Act.put, List.setIfInBounds_toArray, List.set_cons_zero, List.set_cons_succ, i64_w, i32_w]
                                rfl
                              exact norm_ (by simp only [putAll, Act.put, List.setIfInBounds_toArray, List.set_cons_zero, List.set_cons_succ]) (hCont (.slice A130 [ofL a].length c130, v131, .slice A139 [ofL b].length c139, v140, A146, c146) _ ⟨qR.out, qX.out, qW.out, p3.out⟩)
                          · skip
                            refine Kd.R_lit_step Kd.string (w0 := w) w.heap.size 9 (by rfl) (N := 139) rfl (xs := ([ofL b] : List ByteArray)) (inner := [.string (ofL b)]) (ok := (apart (.slice AL fs.length cL) (.slice AW fs.length cW) (.slice AT fs.length cT) w.heap.size)) (okp := fun _ => False) ?hr (Reps.one (show Kd.M Kd.string _ _ _ (ofL b) [.string (ofL b)] from rfl) (Reps.none _ _)) (fun _ hk => hk.elim) (qR.out.fresh (Nat.le_refl _)) qW.out (below_size qW.out) (by simp) ?_
                            (case hr => first | (go_simp; done) | (go_simp; rfl))
                            intro v139 w139 ho hb hg hn
                            obtain ⟨A139, c139, rfl, hc139, _⟩ := Kd.R_reads ho
                            have p2 := Aside0.mk (Kd.R_F ho)
                            have hbN := below_noneR hg hb qW.out
                            replace qX := Aside0.mk (blk_below qX.out hbN)
                            replace qR := Aside0.mk (qR.out.below hbN)
                            replace q8 := Aside0.mk (foot_below q8.out hbN)
                            replace p1 := Aside0.mk (foot_below p1.out hbN)
                            replace qW := Aside0.mk hb
                            clear ho hb hg hn hbN hc139
                            refine hK.out _ _ ⟨(blk_cell qX.out 0).trans rfl, (blk_cell qX.out 1).trans rfl, (blk_cell qX.out 2).trans rfl, pw_cell_below qW.out HW1.out, pw_cell_below qW.out HW2.out⟩ (fun hHeld => ?_)
                            clear hK K
                            refine norm_ (a' := ?_) ?_ ?_
                            rotate_left
                            · show Act.put _ (some 139) _ = _
                              simp only [Act.put, List.setIfInBounds_toArray, List.set_cons_zero, List.set_cons_succ, i64_w, i32_w]
                              rfl
                            refine two_ (i := 11) (j := 26) (Ni := some 131) (Nj := some 146) #[true, true, true, true, true, true, true, true, true, true, true, true, true, true, true, true, true, true, true, true, false, true, true, true, true, true, false, false, false, false, false, false, false, false, false, false, false] #[true, true, true, true, true, true, true, true, true, true, true, false, true, true, true, true, true, true, true, true, false, true, true, true, true, true, true, false, false, false, false, false, false, false, false, false, false] rfl rfl rfl rfl (by kernel_rfl) (by decide) (by decide) (fun K hK => ?_) (fun K hK => ?_)
                            · skip
                              refine Kd.R_append_rows_step Kd.string (w0 := w) w.heap.size (by rfl) (.tmp 126) (.tmp 130) 29 9 (.string ⟨#[]⟩) 16 rfl Tryd.underlying29 PA.info9 rfl (by decide) (by omega) (.slice AL fs.length cL) (lsOf fs) [ofL a] A130 [ofL a].length c130 (fun _ => True) (fun _ => False) (by rfl) (by rfl) qR.out.L (Kd.F_now p1.out) (fun _ _ h_ => h_) (fun _ h_ => h_.elim) (fun _ _ => trivial) qW.out (below_size qW.out) (by rw [lsOf_len]; simp only [List.length_cons, List.length_nil]; omega) ?_
                              intro v131 w131 ho hb hg hn
                              clear p1
                              replace p2 := Aside0.mk (foot_L p2.out hg hn)
                              replace q8 := Aside0.mk (foot_L q8.out hg hn)
                              replace qX := Aside0.mk (blk_grown qX.out hg qR.out.B_L)
                              replace qR := Aside0.mk (qR.out.appL ho hg hn)
                              replace qW := Aside0.mk hb
                              clear ho hb hg hn
                              refine hK.out _ _ ⟨(blk_cell qX.out 0).trans rfl, (blk_cell qX.out 1).trans rfl, (blk_cell qX.out 2).trans rfl, pw_cell_below qW.out HW1.out, pw_cell_below qW.out HW2.out⟩ (fun hHeld => ?_)
                              clear hK K
                              refine norm_ (a' := ?_) ?_ ?_
                              rotate_left
                              · show Act.put _ (some 131) _ = _
                                simp only [Act.put, List.setIfInBounds_toArray, List.set_cons_zero, List.set_cons_succ, i64_w, i32_w]
                                rfl
                              refine two_ (i := 20) (j := 26) (Ni := some 140) (Nj := some 146) #[true, true, true, true, true, true, true, true, true, true, true, true, true, true, true, true, true, true, true, true, true, true, true, true, true, true, false, false, false, false, false, false, false, false, false, false, false] #[true, true, true, true, true, true, true, true, true, true, true, true, true, true, true, true, true, true, true, true, false, true, true, true, true, true, true, false, false, false, false, false, false, false, false, false, false] rfl rfl rfl rfl (by kernel_rfl) (by decide) (by decide) (fun K hK => ?_) (fun K hK => ?_)
                              · skip
                                refine Kd.R_append_rows_step Kd.string (w0 := w) w.heap.size (by rfl) (.tmp 135) (.tmp 139) 29 9 (.string ⟨#[]⟩) 16 rfl Tryd.underlying29 PA.info9 rfl (by decide) (by omega) (.slice AW fs.length cW) (wsOf fs) [ofL b] A139 [ofL b].length c139 (fun _ => True) (fun _ => False) (by rfl) (by rfl) qR.out.W (Kd.F_now p2.out) (fun _ _ h_ => h_) (fun _ h_ => h_.elim) (fun _ _ => trivial) qW.out (below_size qW.out) (by rw [wsOf_len]; simp only [List.length_cons, List.length_nil]; omega) ?_
                                intro v140 w140 ho hb hg hn
                                clear p2
                                replace q8 := Aside0.mk (foot_W q8.out hg hn)
                                replace qX := Aside0.mk (blk_grown qX.out hg qR.out.B_W)
                                replace qR := Aside0.mk (qR.out.appW ho hg hn)
                                replace qW := Aside0.mk hb
                                clear ho hb hg hn
                                refine hK.out _ _ ⟨(blk_cell qX.out 0).trans rfl, (blk_cell qX.out 1).trans rfl, (blk_cell qX.out 2).trans rfl, pw_cell_below qW.out HW1.out, pw_cell_below qW.out HW2.out⟩ (fun hHeld => ?_)
                                clear hK K
                                refine norm_ (a' := ?_) ?_ ?_
                                rotate_left
                                · show Act.put _ (some 140) _ = _
                                  simp only [Act.put, List.setIfInBounds_toArray, List.set_cons_zero, List.set_cons_succ, i64_w, i32_w]
                                  rfl
                                refine one_ (i := 26) (N := some 146) #[true, true, true, true, true, true, true, true, true, true, true, true, true, true, true, true, true, true, true, true, true, true, true, true, true, true, true, false, false, false, false, false, false, false, false, false, false] rfl rfl (by kernel_rfl) (by decide) (fun K hK => ?_)
                                refine Kd.N_lit_step kStrs (w0 := w) w.heap.size 29 (by rfl) (N' := 146) rfl (xs := ([tl] : List (List ByteArray))) (inner := [.slice A8 4 c8]) (ok := (apart v131 v140 (.slice AT fs.length cT) w.heap.size)) (okp := (apart v131 v140 (.slice AT fs.length cT) w.heap.size)) ?hr (Reps.one q8.out (Reps.none _ _)) (fun _ hk => hk) (qR.out.fresh (Nat.le_refl _)) qW.out (below_size qW.out) (by simp) ?_
                                (case hr => first | (go_simp; done) | (go_simp; rfl))
                                intro v146 w146 ho hb hg hn
                                obtain ⟨A146, c146, rfl, hc146, _⟩ := Kd.N_reads ho
                                have p3 := Aside0.mk (Kd.N_F ho)
                                have hbN := below_noneR hg hb qW.out
                                replace qX := Aside0.mk (blk_below qX.out hbN)
                                replace qR := Aside0.mk (qR.out.below hbN)
                                replace q8 := Aside0.mk (foot_below q8.out hbN)
                                replace qW := Aside0.mk hb
                                clear ho hb hg hn hbN hc146
                                refine hK.out _ _ ⟨(blk_cell qX.out 0).trans rfl, (blk_cell qX.out 1).trans rfl, (blk_cell qX.out 2).trans rfl, pw_cell_below qW.out HW1.out, pw_cell_below qW.out HW2.out⟩ (fun hHeld => ?_)
                                clear hK K
                                refine norm_ (a' := ?_) ?_ ?_
                                rotate_left
                                · show Act.put _ (some 146) _ = _
                                  simp only [Act.put, List.setIfInBounds_toArray, List.set_cons_zero, List.set_cons_succ, i64_w, i32_w]
                                  rfl
                                exact norm_ (by simp only [putAll, Act.put, List.setIfInBounds_toArray, List.set_cons_zero, List.set_cons_succ]) (hCont (.slice A130 [ofL a].length c130, v131, .slice A139 [ofL b].length c139, v140, A146, c146) _ ⟨qR.out, qX.out, qW.out, p3.out⟩)
                              · skip
                                refine Kd.N_lit_step kStrs (w0 := w) w.heap.size 29 (by rfl) (N' := 146) rfl (xs := ([tl] : List (List ByteArray))) (inner := [.slice A8 4 c8]) (ok := (apart v131 (.slice AW fs.length cW) (.slice AT fs.length cT) w.heap.size)) (okp := (apart v131 (.slice AW fs.length cW) (.slice AT fs.length cT) w.heap.size)) ?hr (Reps.one q8.out (Reps.none _ _)) (fun _ hk => hk) (qR.out.fresh (Nat.le_refl _)) qW.out (below_size qW.out) (by simp) ?_
                                (case hr => first | (go_simp; done) | (go_simp; rfl))
                                intro v146 w146 ho hb hg hn
                                obtain ⟨A146, c146, rfl, hc146, _⟩ := Kd.N_reads ho
                                have p3 := Aside0.mk (Kd.N_F ho)
                                have hbN := below_noneR hg hb qW.out
                                replace qX := Aside0.mk (blk_below qX.out hbN)
                                replace qR := Aside0.mk (qR.out.below hbN)
                                replace q8 := Aside0.mk (foot_below q8.out hbN)
                                replace p2 := Aside0.mk (foot_below p2.out hbN)
                                replace qW := Aside0.mk hb
                                clear ho hb hg hn hbN hc146
                                refine hK.out _ _ ⟨(blk_cell qX.out 0).trans rfl, (blk_cell qX.out 1).trans rfl, (blk_cell qX.out 2).trans rfl, pw_cell_below qW.out HW1.out, pw_cell_below qW.out HW2.out⟩ (fun hHeld => ?_)
                                clear hK K
                                refine norm_ (a' := ?_) ?_ ?_
                                rotate_left
                                · show Act.put _ (some 146) _ = _
                                  simp only [Act.put, List.setIfInBounds_toArray, List.set_cons_zero, List.set_cons_succ, i64_w, i32_w]
                                  rfl
                                refine one_ (i := 20) (N := some 140) #[true, true, true, true, true, true, true, true, true, true, true, true, true, true, true, true, true, true, true, true, true, true, true, true, true, true, true, false, false, false, false, false, false, false, false, false, false] rfl rfl (by kernel_rfl) (by decide) (fun K hK => ?_)
                                refine Kd.R_append_rows_step Kd.string (w0 := w) w.heap.size (by rfl) (.tmp 135) (.tmp 139) 29 9 (.string ⟨#[]⟩) 16 rfl Tryd.underlying29 PA.info9 rfl (by decide) (by omega) (.slice AW fs.length cW) (wsOf fs) [ofL b] A139 [ofL b].length c139 (fun _ => True) (fun _ => False) (by rfl) (by rfl) qR.out.W (Kd.F_now p2.out) (fun _ _ h_ => h_) (fun _ h_ => h_.elim) (fun _ _ => trivial) qW.out (below_size qW.out) (by rw [wsOf_len]; simp only [List.length_cons, List.length_nil]; omega) ?_
                                intro v140 w140 ho hb hg hn
                                clear p2
                                replace p3 := Aside0.mk (foot_W p3.out hg hn)
                                replace q8 := Aside0.mk (foot_W q8.out hg hn)
                                replace qX := Aside0.mk (blk_grown qX.out hg qR.out.B_W)
                                replace qR := Aside0.mk (qR.out.appW ho hg hn)
                                replace qW := Aside0.mk hb
                                clear ho hb hg hn
                                refine hK.out _ _ ⟨(blk_cell qX.out 0).trans rfl, (blk_cell qX.out 1).trans rfl, (blk_cell qX.out 2).trans rfl, pw_cell_below qW.out HW1.out, pw_cell_below qW.out HW2.out⟩ (fun hHeld => ?_)
                                clear hK K
                                refine norm_ (a' := ?_) ?_ ?_
                                rotate_left
                                · show Act.put _ (some 140) _ = _
                                  simp only [Act.put, List.setIfInBounds_toArray, List.set_cons_zero, List.set_cons_succ, i64_w, i32_w]
                                  rfl
                                exact norm_ (by simp only [putAll, Act.put, List.setIfInBounds_toArray, List.set_cons_zero, List.set_cons_succ]) (hCont (.slice A130 [ofL a].length c130, v131, .slice A139 [ofL b].length c139, v140, A146, c146) _ ⟨qR.out, qX.out, qW.out, p3.out⟩)
                            · skip
                              refine Kd.N_lit_step kStrs (w0 := w) w.heap.size 29 (by rfl) (N' := 146) rfl (xs := ([tl] : List (List ByteArray))) (inner := [.slice A8 4 c8]) (ok := (apart (.slice AL fs.length cL) (.slice AW fs.length cW) (.slice AT fs.length cT) w.heap.size)) (okp := (apart (.slice AL fs.length cL) (.slice AW fs.length cW) (.slice AT fs.length cT) w.heap.size)) ?hr (Reps.one q8.out (Reps.none _ _)) (fun _ hk => hk) (qR.out.fresh (Nat.le_refl _)) qW.out (below_size qW.out) (by simp) ?_
                              (case hr => first | (go_simp; done) | (go_simp; rfl))
                              intro v146 w146 ho hb hg hn
                              obtain ⟨A146, c146, rfl, hc146, _⟩ := Kd.N_reads ho
                              have p3 := Aside0.mk (Kd.N_F ho)
                              have hbN := below_noneR hg hb qW.out
                              replace qX := Aside0.mk (blk_below qX.out hbN)
                              replace qR := Aside0.mk (qR.out.below hbN)
                              replace q8 := Aside0.mk (foot_below q8.out hbN)
                              replace p1 := Aside0.mk (foot_below p1.out hbN)
                              replace p2 := Aside0.mk (foot_below p2.out hbN)
                              replace qW := Aside0.mk hb
                              clear ho hb hg hn hbN hc146
                              refine hK.out _ _ ⟨(blk_cell qX.out 0).trans rfl, (blk_cell qX.out 1).trans rfl, (blk_cell qX.out 2).trans rfl, pw_cell_below qW.out HW1.out, pw_cell_below qW.out HW2.out⟩ (fun hHeld => ?_)
                              clear hK K
                              refine norm_ (a' := ?_) ?_ ?_
                              rotate_left
                              · show Act.put _ (some 146) _ = _
                                simp only [Act.put, List.setIfInBounds_toArray, List.set_cons_zero, List.set_cons_succ, i64_w, i32_w]
                                rfl
                              refine one_ (i := 11) (N := some 131) #[true, true, true, true, true, true, true, true, true, true, true, true, true, true, true, true, true, true, true, true, false, true, true, true, true, true, true, false, false, false, false, false, false, false, false, false, false] rfl rfl (by kernel_rfl) (by decide) (fun K hK => ?_)
                              refine Kd.R_append_rows_step Kd.string (w0 := w) w.heap.size (by rfl) (.tmp 126) (.tmp 130) 29 9 (.string ⟨#[]⟩) 16 rfl Tryd.underlying29 PA.info9 rfl (by decide) (by omega) (.slice AL fs.length cL) (lsOf fs) [ofL a] A130 [ofL a].length c130 (fun _ => True) (fun _ => False) (by rfl) (by rfl) qR.out.L (Kd.F_now p1.out) (fun _ _ h_ => h_) (fun _ h_ => h_.elim) (fun _ _ => trivial) qW.out (below_size qW.out) (by rw [lsOf_len]; simp only [List.length_cons, List.length_nil]; omega) ?_
                              intro v131 w131 ho hb hg hn
                              clear p1
                              replace p2 := Aside0.mk (foot_L p2.out hg hn)
                              replace p3 := Aside0.mk (foot_L p3.out hg hn)
                              replace q8 := Aside0.mk (foot_L q8.out hg hn)
                              replace qX := Aside0.mk (blk_grown qX.out hg qR.out.B_L)
                              replace qR := Aside0.mk (qR.out.appL ho hg hn)
                              replace qW := Aside0.mk hb
                              clear ho hb hg hn
                              refine hK.out _ _ ⟨(blk_cell qX.out 0).trans rfl, (blk_cell qX.out 1).trans rfl, (blk_cell qX.out 2).trans rfl, pw_cell_below qW.out HW1.out, pw_cell_below qW.out HW2.out⟩ (fun hHeld => ?_)
                              clear hK K
                              refine norm_ (a' := ?_) ?_ ?_
                              rotate_left
                              · show Act.put _ (some 131) _ = _
                                simp only [Act.put, List.setIfInBounds_toArray, List.set_cons_zero, List.set_cons_succ, i64_w, i32_w]
                                rfl
                              refine one_ (i := 20) (N := some 140) #[true, true, true, true, true, true, true, true, true, true, true, true, true, true, true, true, true, true, true, true, true, true, true, true, true, true, true, false, false, false, false, false, false, false, false, false, false] rfl rfl (by kernel_rfl) (by decide) (fun K hK => ?_)
                              refine Kd.R_append_rows_step Kd.string (w0 := w) w.heap.size (by rfl) (.tmp 135) (.tmp 139) 29 9 (.string ⟨#[]⟩) 16 rfl Tryd.underlying29 PA.info9 rfl (by decide) (by omega) (.slice AW fs.length cW) (wsOf fs) [ofL b] A139 [ofL b].length c139 (fun _ => True) (fun _ => False) (by rfl) (by rfl) qR.out.W (Kd.F_now p2.out) (fun _ _ h_ => h_) (fun _ h_ => h_.elim) (fun _ _ => trivial) qW.out (below_size qW.out) (by rw [wsOf_len]; simp only [List.length_cons, List.length_nil]; omega) ?_
                              intro v140 w140 ho hb hg hn
                              clear p2
                              replace p3 := Aside0.mk (foot_W p3.out hg hn)
                              replace q8 := Aside0.mk (foot_W q8.out hg hn)
                              replace qX := Aside0.mk (blk_grown qX.out hg qR.out.B_W)
                              replace qR := Aside0.mk (qR.out.appW ho hg hn)
                              replace qW := Aside0.mk hb
                              clear ho hb hg hn
                              refine hK.out _ _ ⟨(blk_cell qX.out 0).trans rfl, (blk_cell qX.out 1).trans rfl, (blk_cell qX.out 2).trans rfl, pw_cell_below qW.out HW1.out, pw_cell_below qW.out HW2.out⟩ (fun hHeld => ?_)
                              clear hK K
                              refine norm_ (a' := ?_) ?_ ?_
                              rotate_left
                              · show Act.put _ (some 140) _ = _
                                simp only [Act.put, List.setIfInBounds_toArray, List.set_cons_zero, List.set_cons_succ, i64_w, i32_w]
                                rfl
                              exact norm_ (by simp only [putAll, Act.put, List.setIfInBounds_toArray, List.set_cons_zero, List.set_cons_succ]) (hCont (.slice A130 [ofL a].length c130, v131, .slice A139 [ofL b].length c139, v140, A146, c146) _ ⟨qR.out, qX.out, qW.out, p3.out⟩)
                          · skip
                            refine Kd.N_lit_step kStrs (w0 := w) w.heap.size 29 (by rfl) (N' := 146) rfl (xs := ([tl] : List (List ByteArray))) (inner := [.slice A8 4 c8]) (ok := (apart (.slice AL fs.length cL) (.slice AW fs.length cW) (.slice AT fs.length cT) w.heap.size)) (okp := (apart (.slice AL fs.length cL) (.slice AW fs.length cW) (.slice AT fs.length cT) w.heap.size)) ?hr (Reps.one q8.out (Reps.none _ _)) (fun _ hk => hk) (qR.out.fresh (Nat.le_refl _)) qW.out (below_size qW.out) (by simp) ?_
                            (case hr => first | (go_simp; done) | (go_simp; rfl))
                            intro v146 w146 ho hb hg hn
                            obtain ⟨A146, c146, rfl, hc146, _⟩ := Kd.N_reads ho
                            have p3 := Aside0.mk (Kd.N_F ho)
                            have hbN := below_noneR hg hb qW.out
                            replace qX := Aside0.mk (blk_below qX.out hbN)
                            replace qR := Aside0.mk (qR.out.below hbN)
                            replace q8 := Aside0.mk (foot_below q8.out hbN)
                            replace p1 := Aside0.mk (foot_below p1.out hbN)
                            replace qW := Aside0.mk hb
                            clear ho hb hg hn hbN hc146
                            refine hK.out _ _ ⟨(blk_cell qX.out 0).trans rfl, (blk_cell qX.out 1).trans rfl, (blk_cell qX.out 2).trans rfl, pw_cell_below qW.out HW1.out, pw_cell_below qW.out HW2.out⟩ (fun hHeld => ?_)
                            clear hK K
                            refine norm_ (a' := ?_) ?_ ?_
                            rotate_left
                            · show Act.put _ (some 146) _ = _
                              simp only [Act.put, List.setIfInBounds_toArray, List.set_cons_zero, List.set_cons_succ, i64_w, i32_w]
                              rfl
                            refine two_ (i := 11) (j := 19) (Ni := some 131) (Nj := some 139) #[true, true, true, true, true, true, true, true, true, true, true, true, true, true, true, true, true, true, true, false, false, true, true, true, true, true, true, false, false, false, false, false, false, false, false, false, false] #[true, true, true, true, true, true, true, true, true, true, true, false, true, true, true, true, true, true, true, true, false, true, true, true, true, true, true, false, false, false, false, false, false, false, false, false, false] rfl rfl rfl rfl (by kernel_rfl) (by decide) (by decide) (fun K hK => ?_) (fun K hK => ?_)
                            · skip
                              refine Kd.R_append_rows_step Kd.string (w0 := w) w.heap.size (by rfl) (.tmp 126) (.tmp 130) 29 9 (.string ⟨#[]⟩) 16 rfl Tryd.underlying29 PA.info9 rfl (by decide) (by omega) (.slice AL fs.length cL) (lsOf fs) [ofL a] A130 [ofL a].length c130 (fun _ => True) (fun _ => False) (by rfl) (by rfl) qR.out.L (Kd.F_now p1.out) (fun _ _ h_ => h_) (fun _ h_ => h_.elim) (fun _ _ => trivial) qW.out (below_size qW.out) (by rw [lsOf_len]; simp only [List.length_cons, List.length_nil]; omega) ?_
                              intro v131 w131 ho hb hg hn
                              clear p1
                              replace p3 := Aside0.mk (foot_L p3.out hg hn)
                              replace q8 := Aside0.mk (foot_L q8.out hg hn)
                              replace qX := Aside0.mk (blk_grown qX.out hg qR.out.B_L)
                              replace qR := Aside0.mk (qR.out.appL ho hg hn)
                              replace qW := Aside0.mk hb
                              clear ho hb hg hn
                              refine hK.out _ _ ⟨(blk_cell qX.out 0).trans rfl, (blk_cell qX.out 1).trans rfl, (blk_cell qX.out 2).trans rfl, pw_cell_below qW.out HW1.out, pw_cell_below qW.out HW2.out⟩ (fun hHeld => ?_)
                              clear hK K
                              refine norm_ (a' := ?_) ?_ ?_
                              rotate_left
                              · show Act.put _ (some 131) _ = _
                                simp only [Act.put, List.setIfInBounds_toArray, List.set_cons_zero, List.set_cons_succ, i64_w, i32_w]
                                rfl
                              refine one_ (i := 19) (N := some 139) #[true, true, true, true, true, true, true, true, true, true, true, true, true, true, true, true, true, true, true, true, false, true, true, true, true, true, true, false, false, false, false, false, false, false, false, false, false] rfl rfl (by kernel_rfl) (by decide) (fun K hK => ?_)
                              refine Kd.R_lit_step Kd.string (w0 := w) w.heap.size 9 (by rfl) (N := 139) rfl (xs := ([ofL b] : List ByteArray)) (inner := [.string (ofL b)]) (ok := (apart v131 (.slice AW fs.length cW) (.slice AT fs.length cT) w.heap.size)) (okp := fun _ => False) ?hr (Reps.one (show Kd.M Kd.string _ _ _ (ofL b) [.string (ofL b)] from rfl) (Reps.none _ _)) (fun _ hk => hk.elim) (qR.out.fresh (Nat.le_refl _)) qW.out (below_size qW.out) (by simp) ?_
                              (case hr => first | (go_simp; done) | (go_simp; rfl))
                              intro v139 w139 ho hb hg hn
                              obtain ⟨A139, c139, rfl, hc139, _⟩ := Kd.R_reads ho
                              have p2 := Aside0.mk (Kd.R_F ho)
                              have hbN := below_noneR hg hb qW.out
                              replace qX := Aside0.mk (blk_below qX.out hbN)
                              replace qR := Aside0.mk (qR.out.below hbN)
                              replace q8 := Aside0.mk (foot_below q8.out hbN)
                              replace p3 := Aside0.mk (foot_below p3.out hbN)
                              replace qW := Aside0.mk hb
                              clear ho hb hg hn hbN hc139
                              refine hK.out _ _ ⟨(blk_cell qX.out 0).trans rfl, (blk_cell qX.out 1).trans rfl, (blk_cell qX.out 2).trans rfl, pw_cell_below qW.out HW1.out, pw_cell_below qW.out HW2.out⟩ (fun hHeld => ?_)
                              clear hK K
                              refine norm_ (a' := ?_) ?_ ?_
                              rotate_left
                              · show Act.put _ (some 139) _ = _
                                simp only [Act.put, List.setIfInBounds_toArray, List.set_cons_zero, List.set_cons_succ, i64_w, i32_w]
                                rfl
                              refine one_ (i := 20) (N := some 140) #[true, true, true, true, true, true, true, true, true, true, true, true, true, true, true, true, true, true, true, true, true, true, true, true, true, true, true, false, false, false, false, false, false, false, false, false, false] rfl rfl (by kernel_rfl) (by decide) (fun K hK => ?_)
                              refine Kd.R_append_rows_step Kd.string (w0 := w) w.heap.size (by rfl) (.tmp 135) (.tmp 139) 29 9 (.string ⟨#[]⟩) 16 rfl Tryd.underlying29 PA.info9 rfl (by decide) (by omega) (.slice AW fs.length cW) (wsOf fs) [ofL b] A139 [ofL b].length c139 (fun _ => True) (fun _ => False) (by rfl) (by rfl) qR.out.W (Kd.F_now p2.out) (fun _ _ h_ => h_) (fun _ h_ => h_.elim) (fun _ _ => trivial) qW.out (below_size qW.out) (by rw [wsOf_len]; simp only [List.length_cons, List.length_nil]; omega) ?_
                              intro v140 w140 ho hb hg hn
                              clear p2
                              replace p3 := Aside0.mk (foot_W p3.out hg hn)
                              replace q8 := Aside0.mk (foot_W q8.out hg hn)
                              replace qX := Aside0.mk (blk_grown qX.out hg qR.out.B_W)
                              replace qR := Aside0.mk (qR.out.appW ho hg hn)
                              replace qW := Aside0.mk hb
                              clear ho hb hg hn
                              refine hK.out _ _ ⟨(blk_cell qX.out 0).trans rfl, (blk_cell qX.out 1).trans rfl, (blk_cell qX.out 2).trans rfl, pw_cell_below qW.out HW1.out, pw_cell_below qW.out HW2.out⟩ (fun hHeld => ?_)
                              clear hK K
                              refine norm_ (a' := ?_) ?_ ?_
                              rotate_left
                              · show Act.put _ (some 140) _ = _
                                simp only [Act.put, List.setIfInBounds_toArray, List.set_cons_zero, List.set_cons_succ, i64_w, i32_w]
                                rfl
                              exact norm_ (by simp only [putAll, Act.put, List.setIfInBounds_toArray, List.set_cons_zero, List.set_cons_succ]) (hCont (.slice A130 [ofL a].length c130, v131, .slice A139 [ofL b].length c139, v140, A146, c146) _ ⟨qR.out, qX.out, qW.out, p3.out⟩)
                            · skip
                              refine Kd.R_lit_step Kd.string (w0 := w) w.heap.size 9 (by rfl) (N := 139) rfl (xs := ([ofL b] : List ByteArray)) (inner := [.string (ofL b)]) (ok := (apart (.slice AL fs.length cL) (.slice AW fs.length cW) (.slice AT fs.length cT) w.heap.size)) (okp := fun _ => False) ?hr (Reps.one (show Kd.M Kd.string _ _ _ (ofL b) [.string (ofL b)] from rfl) (Reps.none _ _)) (fun _ hk => hk.elim) (qR.out.fresh (Nat.le_refl _)) qW.out (below_size qW.out) (by simp) ?_
                              (case hr => first | (go_simp; done) | (go_simp; rfl))
                              intro v139 w139 ho hb hg hn
                              obtain ⟨A139, c139, rfl, hc139, _⟩ := Kd.R_reads ho
                              have p2 := Aside0.mk (Kd.R_F ho)
                              have hbN := below_noneR hg hb qW.out
                              replace qX := Aside0.mk (blk_below qX.out hbN)
                              replace qR := Aside0.mk (qR.out.below hbN)
                              replace q8 := Aside0.mk (foot_below q8.out hbN)
                              replace p1 := Aside0.mk (foot_below p1.out hbN)
                              replace p3 := Aside0.mk (foot_below p3.out hbN)
                              replace qW := Aside0.mk hb
                              clear ho hb hg hn hbN hc139
                              refine hK.out _ _ ⟨(blk_cell qX.out 0).trans rfl, (blk_cell qX.out 1).trans rfl, (blk_cell qX.out 2).trans rfl, pw_cell_below qW.out HW1.out, pw_cell_below qW.out HW2.out⟩ (fun hHeld => ?_)
                              clear hK K
                              refine norm_ (a' := ?_) ?_ ?_
                              rotate_left
                              · show Act.put _ (some 139) _ = _
                                simp only [Act.put, List.setIfInBounds_toArray, List.set_cons_zero, List.set_cons_succ, i64_w, i32_w]
                                rfl
                              refine one_ (i := 11) (N := some 131) #[true, true, true, true, true, true, true, true, true, true, true, true, true, true, true, true, true, true, true, true, false, true, true, true, true, true, true, false, false, false, false, false, false, false, false, false, false] rfl rfl (by kernel_rfl) (by decide) (fun K hK => ?_)
                              refine Kd.R_append_rows_step Kd.string (w0 := w) w.heap.size (by rfl) (.tmp 126) (.tmp 130) 29 9 (.string ⟨#[]⟩) 16 rfl Tryd.underlying29 PA.info9 rfl (by decide) (by omega) (.slice AL fs.length cL) (lsOf fs) [ofL a] A130 [ofL a].length c130 (fun _ => True) (fun _ => False) (by rfl) (by rfl) qR.out.L (Kd.F_now p1.out) (fun _ _ h_ => h_) (fun _ h_ => h_.elim) (fun _ _ => trivial) qW.out (below_size qW.out) (by rw [lsOf_len]; simp only [List.length_cons, List.length_nil]; omega) ?_
                              intro v131 w131 ho hb hg hn
                              clear p1
                              replace p2 := Aside0.mk (foot_L p2.out hg hn)
                              replace p3 := Aside0.mk (foot_L p3.out hg hn)
                              replace q8 := Aside0.mk (foot_L q8.out hg hn)
                              replace qX := Aside0.mk (blk_grown qX.out hg qR.out.B_L)
                              replace qR := Aside0.mk (qR.out.appL ho hg hn)
                              replace qW := Aside0.mk hb
                              clear ho hb hg hn
                              refine hK.out _ _ ⟨(blk_cell qX.out 0).trans rfl, (blk_cell qX.out 1).trans rfl, (blk_cell qX.out 2).trans rfl, pw_cell_below qW.out HW1.out, pw_cell_below qW.out HW2.out⟩ (fun hHeld => ?_)
                              clear hK K
                              refine norm_ (a' := ?_) ?_ ?_
                              rotate_left
                              · show Act.put _ (some 131) _ = _
                                simp only [Act.put, List.setIfInBounds_toArray, List.set_cons_zero, List.set_cons_succ, i64_w, i32_w]
                                rfl
                              refine one_ (i := 20) (N := some 140) #[true, true, true, true, true, true, true, true, true, true, true, true, true, true, true, true, true, true, true, true, true, true, true, true, true, true, true, false, false, false, false, false, false, false, false, false, false] rfl rfl (by kernel_rfl) (by decide) (fun K hK => ?_)
                              refine Kd.R_append_rows_step Kd.string (w0 := w) w.heap.size (by rfl) (.tmp 135) (.tmp 139) 29 9 (.string ⟨#[]⟩) 16 rfl Tryd.underlying29 PA.info9 rfl (by decide) (by omega) (.slice AW fs.length cW) (wsOf fs) [ofL b] A139 [ofL b].length c139 (fun _ => True) (fun _ => False) (by rfl) (by rfl) qR.out.W (Kd.F_now p2.out) (fun _ _ h_ => h_) (fun _ h_ => h_.elim) (fun _ _ => trivial) qW.out (below_size qW.out) (by rw [wsOf_len]; simp only [List.length_cons, List.length_nil]; omega) ?_
                              intro v140 w140 ho hb hg hn
                              clear p2
                              replace p3 := Aside0.mk (foot_W p3.out hg hn)
                              replace q8 := Aside0.mk (foot_W q8.out hg hn)
                              replace qX := Aside0.mk (blk_grown qX.out hg qR.out.B_W)
                              replace qR := Aside0.mk (qR.out.appW ho hg hn)
                              replace qW := Aside0.mk hb
                              clear ho hb hg hn
                              refine hK.out _ _ ⟨(blk_cell qX.out 0).trans rfl, (blk_cell qX.out 1).trans rfl, (blk_cell qX.out 2).trans rfl, pw_cell_below qW.out HW1.out, pw_cell_below qW.out HW2.out⟩ (fun hHeld => ?_)
                              clear hK K
                              refine norm_ (a' := ?_) ?_ ?_
                              rotate_left
                              · show Act.put _ (some 140) _ = _
                                simp only [Act.put, List.setIfInBounds_toArray, List.set_cons_zero, List.set_cons_succ, i64_w, i32_w]
                                rfl
                              exact norm_ (by simp only [putAll, Act.put, List.setIfInBounds_toArray, List.set_cons_zero, List.set_cons_succ]) (hCont (.slice A130 [ofL a].length c130, v131, .slice A139 [ofL b].length c139, v140, A146, c146) _ ⟨qR.out, qX.out, qW.out, p3.out⟩)
                        · skip
                          refine Kd.R_lit_step Kd.string (w0 := w) w.heap.size 9 (by rfl) (N := 139) rfl (xs := ([ofL b] : List ByteArray)) (inner := [.string (ofL b)]) (ok := (apart (.slice AL fs.length cL) (.slice AW fs.length cW) (.slice AT fs.length cT) w.heap.size)) (okp := fun _ => False) ?hr (Reps.one (show Kd.M Kd.string _ _ _ (ofL b) [.string (ofL b)] from rfl) (Reps.none _ _)) (fun _ hk => hk.elim) (qR.out.fresh (Nat.le_refl _)) qW.out (below_size qW.out) (by simp) ?_
                          (case hr => first | (go_simp; done) | (go_simp; rfl))
                          intro v139 w139 ho hb hg hn
                          obtain ⟨A139, c139, rfl, hc139, _⟩ := Kd.R_reads ho
                          have p2 := Aside0.mk (Kd.R_F ho)
                          have hbN := below_noneR hg hb qW.out
                          replace qX := Aside0.mk (blk_below qX.out hbN)
                          replace qR := Aside0.mk (qR.out.below hbN)
                          replace q8 := Aside0.mk (foot_below q8.out hbN)
                          replace qW := Aside0.mk hb
                          clear ho hb hg hn hbN hc139
                          refine hK.out _ _ ⟨(blk_cell qX.out 0).trans rfl, (blk_cell qX.out 1).trans rfl, (blk_cell qX.out 2).trans rfl, pw_cell_below qW.out HW1.out, pw_cell_below qW.out HW2.out⟩ (fun hHeld => ?_)
                          clear hK K
                          refine norm_ (a' := ?_) ?_ ?_
                          rotate_left
                          · show Act.put _ (some 139) _ = _
                            simp only [Act.put, List.setIfInBounds_toArray, List.set_cons_zero, List.set_cons_succ, i64_w, i32_w]
                            rfl
                          refine two_ (i := 10) (j := 26) (Ni := some 130) (Nj := some 146) #[true, true, true, true, true, true, true, true, true, true, true, false, true, true, true, true, true, true, true, true, false, true, true, true, true, true, false, false, false, false, false, false, false, false, false, false, false] #[true, true, true, true, true, true, true, true, true, true, false, false, true, true, true, true, true, true, true, true, false, true, true, true, true, true, true, false, false, false, false, false, false, false, false, false, false] rfl rfl rfl rfl (by kernel_rfl) (by decide) (by decide) (fun K hK => ?_) (fun K hK => ?_)
                          · skip
                            refine Kd.R_lit_step Kd.string (w0 := w) w.heap.size 9 (by rfl) (N := 130) rfl (xs := ([ofL a] : List ByteArray)) (inner := [.string (ofL a)]) (ok := (apart (.slice AL fs.length cL) (.slice AW fs.length cW) (.slice AT fs.length cT) w.heap.size)) (okp := fun _ => False) ?hr (Reps.one (show Kd.M Kd.string _ _ _ (ofL a) [.string (ofL a)] from rfl) (Reps.none _ _)) (fun _ hk => hk.elim) (qR.out.fresh (Nat.le_refl _)) qW.out (below_size qW.out) (by simp) ?_
                            (case hr => first | (go_simp; done) | (go_simp; rfl))
                            intro v130 w130 ho hb hg hn
                            obtain ⟨A130, c130, rfl, hc130, _⟩ := Kd.R_reads ho
                            have p1 := Aside0.mk (Kd.R_F ho)
                            have hbN := below_noneR hg hb qW.out
                            replace qX := Aside0.mk (blk_below qX.out hbN)
                            replace qR := Aside0.mk (qR.out.below hbN)
                            replace q8 := Aside0.mk (foot_below q8.out hbN)
                            replace p2 := Aside0.mk (foot_below p2.out hbN)
                            replace qW := Aside0.mk hb
                            clear ho hb hg hn hbN hc130
                            refine hK.out _ _ ⟨(blk_cell qX.out 0).trans rfl, (blk_cell qX.out 1).trans rfl, (blk_cell qX.out 2).trans rfl, pw_cell_below qW.out HW1.out, pw_cell_below qW.out HW2.out⟩ (fun hHeld => ?_)
                            clear hK K
                            refine norm_ (a' := ?_) ?_ ?_
                            rotate_left
                            · show Act.put _ (some 130) _ = _
                              simp only [Act.put, List.setIfInBounds_toArray, List.set_cons_zero, List.set_cons_succ, i64_w, i32_w]
                              rfl
                            refine two_ (i := 11) (j := 26) (Ni := some 131) (Nj := some 146) #[true, true, true, true, true, true, true, true, true, true, true, true, true, true, true, true, true, true, true, true, false, true, true, true, true, true, false, false, false, false, false, false, false, false, false, false, false] #[true, true, true, true, true, true, true, true, true, true, true, false, true, true, true, true, true, true, true, true, false, true, true, true, true, true, true, false, false, false, false, false, false, false, false, false, false] rfl rfl rfl rfl (by kernel_rfl) (by decide) (by decide) (fun K hK => ?_) (fun K hK => ?_)
                            · skip
                              refine Kd.R_append_rows_step Kd.string (w0 := w) w.heap.size (by rfl) (.tmp 126) (.tmp 130) 29 9 (.string ⟨#[]⟩) 16 rfl Tryd.underlying29 PA.info9 rfl (by decide) (by omega) (.slice AL fs.length cL) (lsOf fs) [ofL a] A130 [ofL a].length c130 (fun _ => True) (fun _ => False) (by rfl) (by rfl) qR.out.L (Kd.F_now p1.out) (fun _ _ h_ => h_) (fun _ h_ => h_.elim) (fun _ _ => trivial) qW.out (below_size qW.out) (by rw [lsOf_len]; simp only [List.length_cons, List.length_nil]; omega) ?_
                              intro v131 w131 ho hb hg hn
                              clear p1
                              replace p2 := Aside0.mk (foot_L p2.out hg hn)
                              replace q8 := Aside0.mk (foot_L q8.out hg hn)
                              replace qX := Aside0.mk (blk_grown qX.out hg qR.out.B_L)
                              replace qR := Aside0.mk (qR.out.appL ho hg hn)
                              replace qW := Aside0.mk hb
                              clear ho hb hg hn
                              refine hK.out _ _ ⟨(blk_cell qX.out 0).trans rfl, (blk_cell qX.out 1).trans rfl, (blk_cell qX.out 2).trans rfl, pw_cell_below qW.out HW1.out, pw_cell_below qW.out HW2.out⟩ (fun hHeld => ?_)
                              clear hK K
                              refine norm_ (a' := ?_) ?_ ?_
                              rotate_left
                              · show Act.put _ (some 131) _ = _
                                simp only [Act.put, List.setIfInBounds_toArray, List.set_cons_zero, List.set_cons_succ, i64_w, i32_w]
                                rfl
                              refine two_ (i := 20) (j := 26) (Ni := some 140) (Nj := some 146) #[true, true, true, true, true, true, true, true, true, true, true, true, true, true, true, true, true, true, true, true, true, true, true, true, true, true, false, false, false, false, false, false, false, false, false, false, false] #[true, true, true, true, true, true, true, true, true, true, true, true, true, true, true, true, true, true, true, true, false, true, true, true, true, true, true, false, false, false, false, false, false, false, false, false, false] rfl rfl rfl rfl (by kernel_rfl) (by decide) (by decide) (fun K hK => ?_) (fun K hK => ?_)
                              · skip
                                refine Kd.R_append_rows_step Kd.string (w0 := w) w.heap.size (by rfl) (.tmp 135) (.tmp 139) 29 9 (.string ⟨#[]⟩) 16 rfl Tryd.underlying29 PA.info9 rfl (by decide) (by omega) (.slice AW fs.length cW) (wsOf fs) [ofL b] A139 [ofL b].length c139 (fun _ => True) (fun _ => False) (by rfl) (by rfl) qR.out.W (Kd.F_now p2.out) (fun _ _ h_ => h_) (fun _ h_ => h_.elim) (fun _ _ => trivial) qW.out (below_size qW.out) (by rw [wsOf_len]; simp only [List.length_cons, List.length_nil]; omega) ?_
                                intro v140 w140 ho hb hg hn
                                clear p2
                                replace q8 := Aside0.mk (foot_W q8.out hg hn)
                                replace qX := Aside0.mk (blk_grown qX.out hg qR.out.B_W)
                                replace qR := Aside0.mk (qR.out.appW ho hg hn)
                                replace qW := Aside0.mk hb
                                clear ho hb hg hn
                                refine hK.out _ _ ⟨(blk_cell qX.out 0).trans rfl, (blk_cell qX.out 1).trans rfl, (blk_cell qX.out 2).trans rfl, pw_cell_below qW.out HW1.out, pw_cell_below qW.out HW2.out⟩ (fun hHeld => ?_)
                                clear hK K
                                refine norm_ (a' := ?_) ?_ ?_
                                rotate_left
                                · show Act.put _ (some 140) _ = _
                                  simp only [Act.put, List.setIfInBounds_toArray, List.set_cons_zero, List.set_cons_succ, i64_w, i32_w]
                                  rfl
                                refine one_ (i := 26) (N := some 146) #[true, true, true, true, true, true, true, true, true, true, true, true, true, true, true, true, true, true, true, true, true, true, true, true, true, true, true, false, false, false, false, false, false, false, false, false, false] rfl rfl (by kernel_rfl) (by decide) (fun K hK => ?_)
                                refine Kd.N_lit_step kStrs (w0 := w) w.heap.size 29 (by rfl) (N' := 146) rfl (xs := ([tl] : List (List ByteArray))) (inner := [.slice A8 4 c8]) (ok := (apart v131 v140 (.slice AT fs.length cT) w.heap.size)) (okp := (apart v131 v140 (.slice AT fs.length cT) w.heap.size)) ?hr (Reps.one q8.out (Reps.none _ _)) (fun _ hk => hk) (qR.out.fresh (Nat.le_refl _)) qW.out (below_size qW.out) (by simp) ?_
                                (case hr => first | (go_simp; done) | (go_simp; rfl))
                                intro v146 w146 ho hb hg hn
                                obtain ⟨A146, c146, rfl, hc146, _⟩ := Kd.N_reads ho
                                have p3 := Aside0.mk (Kd.N_F ho)
                                have hbN := below_noneR hg hb qW.out
                                replace qX := Aside0.mk (blk_below qX.out hbN)
                                replace qR := Aside0.mk (qR.out.below hbN)
                                replace q8 := Aside0.mk (foot_below q8.out hbN)
                                replace qW := Aside0.mk hb
                                clear ho hb hg hn hbN hc146
                                refine hK.out _ _ ⟨(blk_cell qX.out 0).trans rfl, (blk_cell qX.out 1).trans rfl, (blk_cell qX.out 2).trans rfl, pw_cell_below qW.out HW1.out, pw_cell_below qW.out HW2.out⟩ (fun hHeld => ?_)
                                clear hK K
                                refine norm_ (a' := ?_) ?_ ?_
                                rotate_left
                                · show Act.put _ (some 146) _ = _
                                  simp only [Act.put, List.setIfInBounds_toArray, List.set_cons_zero, List.set_cons_succ, i64_w, i32_w]
                                  rfl
                                exact norm_ (by simp only [putAll, Act.put, List.setIfInBounds_toArray, List.set_cons_zero, List.set_cons_succ]) (hCont (.slice A130 [ofL a].length c130, v131, .slice A139 [ofL b].length c139, v140, A146, c146) _ ⟨qR.out, qX.out, qW.out, p3.out⟩)
                              · skip
                                refine Kd.N_lit_step kStrs (w0 := w) w.heap.size 29 (by rfl) (N' := 146) rfl (xs := ([tl] : List (List ByteArray))) (inner := [.slice A8 4 c8]) (ok := (apart v131 (.slice AW fs.length cW) (.slice AT fs.length cT) w.heap.size)) (okp := (apart v131 (.slice AW fs.length cW) (.slice AT fs.length cT) w.heap.size)) ?hr (Reps.one q8.out (Reps.none _ _)) (fun _ hk => hk) (qR.out.fresh (Nat.le_refl _)) qW.out (below_size qW.out) (by simp) ?_
                                (case hr => first | (go_simp; done) | (go_simp; rfl))
                                intro v146 w146 ho hb hg hn
                                obtain ⟨A146, c146, rfl, hc146, _⟩ := Kd.N_reads ho
                                have p3 := Aside0.mk (Kd.N_F ho)
                                have hbN := below_noneR hg hb qW.out
                                replace qX := Aside0.mk (blk_below qX.out hbN)
                                replace qR := Aside0.mk (qR.out.below hbN)
                                replace q8 := Aside0.mk (foot_below q8.out hbN)
                                replace p2 := Aside0.mk (foot_below p2.out hbN)
                                replace qW := Aside0.mk hb
                                clear ho hb hg hn hbN hc146
                                refine hK.out _ _ ⟨(blk_cell qX.out 0).trans rfl, (blk_cell qX.out 1).trans rfl, (blk_cell qX.out 2).trans rfl, pw_cell_below qW.out HW1.out, pw_cell_below qW.out HW2.out⟩ (fun hHeld => ?_)
                                clear hK K
                                refine norm_ (a' := ?_) ?_ ?_
                                rotate_left
                                · show Act.put _ (some 146) _ = _
                                  simp only [Act.put, List.setIfInBounds_toArray, List.set_cons_zero, List.set_cons_succ, i64_w, i32_w]
                                  rfl
                                refine one_ (i := 20) (N := some 140) #[true, true, true, true, true, true, true, true, true, true, true, true, true, true, true, true, true, true, true, true, true, true, true, true, true, true, true, false, false, false, false, false, false, false, false, false, false] rfl rfl (by kernel_rfl) (by decide) (fun K hK => ?_)
                                refine Kd.R_append_rows_step Kd.string (w0 := w) w.heap.size (by rfl) (.tmp 135) (.tmp 139) 29 9 (.string ⟨#[]⟩) 16 rfl Tryd.underlying29 PA.info9 rfl (by decide) (by omega) (.slice AW fs.length cW) (wsOf fs) [ofL b] A139 [ofL b].length c139 (fun _ => True) (fun _ => False) (by rfl) (by rfl) qR.out.W (Kd.F_now p2.out) (fun _ _ h_ => h_) (fun _ h_ => h_.elim) (fun _ _ => trivial) qW.out (below_size qW.out) (by rw [wsOf_len]; simp only [List.length_cons, List.length_nil]; omega) ?_
                                intro v140 w140 ho hb hg hn
                                clear p2
                                replace p3 := Aside0.mk (foot_W p3.out hg hn)
                                replace q8 := Aside0.mk (foot_W q8.out hg hn)
                                replace qX := Aside0.mk (blk_grown qX.out hg qR.out.B_W)
                                replace qR := Aside0.mk (qR.out.appW ho hg hn)
                                replace qW := Aside0.mk hb
                                clear ho hb hg hn
                                refine hK.out _ _ ⟨(blk_cell qX.out 0).trans rfl, (blk_cell qX.out 1).trans rfl, (blk_cell qX.out 2).trans rfl, pw_cell_below qW.out HW1.out, pw_cell_below qW.out HW2.out⟩ (fun hHeld => ?_)
                                clear hK K
                                refine norm_ (a' := ?_) ?_ ?_
                                rotate_left
                                · show Act.put _ (some 140) _ = _
                                  simp only [Act.put, List.setIfInBounds_toArray, List.set_cons_zero, List.set_cons_succ, i64_w, i32_w]
                                  rfl
                                exact norm_ (by simp only [putAll, Act.put, List.setIfInBounds_toArray, List.set_cons_zero, List.set_cons_succ]) (hCont (.slice A130 [ofL a].length c130, v131, .slice A139 [ofL b].length c139, v140, A146, c146) _ ⟨qR.out, qX.out, qW.out, p3.out⟩)
                            · skip
                              refine Kd.N_lit_step kStrs (w0 := w) w.heap.size 29 (by rfl) (N' := 146) rfl (xs := ([tl] : List (List ByteArray))) (inner := [.slice A8 4 c8]) (ok := (apart (.slice AL fs.length cL) (.slice AW fs.length cW) (.slice AT fs.length cT) w.heap.size)) (okp := (apart (.slice AL fs.length cL) (.slice AW fs.length cW) (.slice AT fs.length cT) w.heap.size)) ?hr (Reps.one q8.out (Reps.none _ _)) (fun _ hk => hk) (qR.out.fresh (Nat.le_refl _)) qW.out (below_size qW.out) (by simp) ?_
                              (case hr => first | (go_simp; done) | (go_simp; rfl))
                              intro v146 w146 ho hb hg hn
                              obtain ⟨A146, c146, rfl, hc146, _⟩ := Kd.N_reads ho
                              have p3 := Aside0.mk (Kd.N_F ho)
                              have hbN := below_noneR hg hb qW.out
                              replace qX := Aside0.mk (blk_below qX.out hbN)
                              replace qR := Aside0.mk (qR.out.below hbN)
                              replace q8 := Aside0.mk (foot_below q8.out hbN)
                              replace p1 := Aside0.mk (foot_below p1.out hbN)
                              replace p2 := Aside0.mk (foot_below p2.out hbN)
                              replace qW := Aside0.mk hb
                              clear ho hb hg hn hbN hc146
                              refine hK.out _ _ ⟨(blk_cell qX.out 0).trans rfl, (blk_cell qX.out 1).trans rfl, (blk_cell qX.out 2).trans rfl, pw_cell_below qW.out HW1.out, pw_cell_below qW.out HW2.out⟩ (fun hHeld => ?_)
                              clear hK K
                              refine norm_ (a' := ?_) ?_ ?_
                              rotate_left
                              · show Act.put _ (some 146) _ = _
                                simp only [Act.put, List.setIfInBounds_toArray, List.set_cons_zero, List.set_cons_succ, i64_w, i32_w]
                                rfl
                              refine one_ (i := 11) (N := some 131) #[true, true, true, true, true, true, true, true, true, true, true, true, true, true, true, true, true, true, true, true, false, true, true, true, true, true, true, false, false, false, false, false, false, false, false, false, false] rfl rfl (by kernel_rfl) (by decide) (fun K hK => ?_)
                              refine Kd.R_append_rows_step Kd.string (w0 := w) w.heap.size (by rfl) (.tmp 126) (.tmp 130) 29 9 (.string ⟨#[]⟩) 16 rfl Tryd.underlying29 PA.info9 rfl (by decide) (by omega) (.slice AL fs.length cL) (lsOf fs) [ofL a] A130 [ofL a].length c130 (fun _ => True) (fun _ => False) (by rfl) (by rfl) qR.out.L (Kd.F_now p1.out) (fun _ _ h_ => h_) (fun _ h_ => h_.elim) (fun _ _ => trivial) qW.out (below_size qW.out) (by rw [lsOf_len]; simp only [List.length_cons, List.length_nil]; omega) ?_
                              intro v131 w131 ho hb hg hn
                              clear p1
                              replace p2 := Aside0.mk (foot_L p2.out hg hn)
                              replace p3 := Aside0.mk (foot_L p3.out hg hn)
                              replace q8 := Aside0.mk (foot_L q8.out hg hn)
                              replace qX := Aside0.mk (blk_grown qX.out hg qR.out.B_L)
                              replace qR := Aside0.mk (qR.out.appL ho hg hn)
                              replace qW := Aside0.mk hb
                              clear ho hb hg hn
                              refine hK.out _ _ ⟨(blk_cell qX.out 0).trans rfl, (blk_cell qX.out 1).trans rfl, (blk_cell qX.out 2).trans rfl, pw_cell_below qW.out HW1.out, pw_cell_below qW.out HW2.out⟩ (fun hHeld => ?_)
                              clear hK K
                              refine norm_ (a' := ?_) ?_ ?_
                              rotate_left
                              · show Act.put _ (some 131) _ = _
                                simp only [Act.put, List.setIfInBounds_toArray, List.set_cons_zero, List.set_cons_succ, i64_w, i32_w]
                                rfl
                              refine one_ (i := 20) (N := some 140) #[true, true, true, true, true, true, true, true, true, true, true, true, true, true, true, true, true, true, true, true, true, true, true, true, true, true, true, false, false, false, false, false, false, false, false, false, false] rfl rfl (by kernel_rfl) (by decide) (fun K hK => ?_)
                              refine Kd.R_append_rows_step Kd.string (w0 := w) w.heap.size (by rfl) (.tmp 135) (.tmp 139) 29 9 (.string ⟨#[]⟩) 16 rfl Tryd.underlying29 PA.info9 rfl (by decide) (by omega) (.slice AW fs.length cW) (wsOf fs) [ofL b] A139 [ofL b].length c139 (fun _ => True) (fun _ => False) (by rfl) (by rfl) qR.out.W (Kd.F_now p2.out) (fun _ _ h_ => h_) (fun _ h_ => h_.elim) (fun _ _ => trivial) qW.out (below_size qW.out) (by rw [wsOf_len]; simp only [List.length_cons, List.length_nil]; omega) ?_
                              intro v140 w140 ho hb hg hn
                              clear p2
                              replace p3 := Aside0.mk (foot_W p3.out hg hn)
                              replace q8 := Aside0.mk (foot_W q8.out hg hn)
                              replace qX := Aside0.mk (blk_grown qX.out hg qR.out.B_W)
                              replace qR := Aside0.mk (qR.out.appW ho hg hn)
                              replace qW := Aside0.mk hb
                              clear ho hb hg hn
                              refine hK.out _ _ ⟨(blk_cell qX.out 0).trans rfl, (blk_cell qX.out 1).trans rfl, (blk_cell qX.out 2).trans rfl, pw_cell_below qW.out HW1.out, pw_cell_below qW.out HW2.out⟩ (fun hHeld => ?_)
                              clear hK K
                              refine norm_ (a' := ?_) ?_ ?_
                              rotate_left
                              · show Act.put _ (some 140) _ = _
                                simp only [Act.put, List.setIfInBounds_toArray, List.set_cons_zero, List.set_cons_succ, i64_w, i32_w]
                                rfl
                              exact norm_ (by simp only [putAll, Act.put, List.setIfInBounds_toArray, List.set_cons_zero, List.set_cons_succ]) (hCont (.slice A130 [ofL a].length c130, v131, .slice A139 [ofL b].length c139, v140, A146, c146) _ ⟨qR.out, qX.out, qW.out, p3.out⟩)
                          · skip
                            refine Kd.N_lit_step kStrs (w0 := w) w.heap.size 29 (by rfl) (N' := 146) rfl (xs := ([tl] : List (List ByteArray))) (inner := [.slice A8 4 c8]) (ok := (apart (.slice AL fs.length cL) (.slice AW fs.length cW) (.slice AT fs.length cT) w.heap.size)) (okp := (apart (.slice AL fs.length cL) (.slice AW fs.length cW) (.slice AT fs.length cT) w.heap.size)) ?hr (Reps.one q8.out (Reps.none _ _)) (fun _ hk => hk) (qR.out.fresh (Nat.le_refl _)) qW.out (below_size qW.out) (by simp) ?_
                            (case hr => first | (go_simp; done) | (go_simp; rfl))
                            intro v146 w146 ho hb hg hn
                            obtain ⟨A146, c146, rfl, hc146, _⟩ := Kd.N_reads ho
                            have p3 := Aside0.mk (Kd.N_F ho)
                            have hbN := below_noneR hg hb qW.out
                            replace qX := Aside0.mk (blk_below qX.out hbN)
                            replace qR := Aside0.mk (qR.out.below hbN)
                            replace q8 := Aside0.mk (foot_below q8.out hbN)
                            replace p2 := Aside0.mk (foot_below p2.out hbN)
                            replace qW := Aside0.mk hb
                            clear ho hb hg hn hbN hc146
                            refine hK.out _ _ ⟨(blk_cell qX.out 0).trans rfl, (blk_cell qX.out 1).trans rfl, (blk_cell qX.out 2).trans rfl, pw_cell_below qW.out HW1.out, pw_cell_below qW.out HW2.out⟩ (fun hHeld => ?_)
                            clear hK K
                            refine norm_ (a' := ?_) ?_ ?_
                            rotate_left
                            · show Act.put _ (some 146) _ = _
                              simp only [Act.put, List.setIfInBounds_toArray, List.set_cons_zero, List.set_cons_succ, i64_w, i32_w]
                              rfl
                            refine one_ (i := 10) (N := some 130) #[true, true, true, true, true, true, true, true, true, true, true, false, true, true, true, true, true, true, true, true, false, true, true, true, true, true, true, false, false, false, false, false, false, false, false, false, false] rfl rfl (by kernel_rfl) (by decide) (fun K hK => ?_)
                            refine Kd.R_lit_step Kd.string (w0 := w) w.heap.size 9 (by rfl) (N := 130) rfl (xs := ([ofL a] : List ByteArray)) (inner := [.string (ofL a)]) (ok := (apart (.slice AL fs.length cL) (.slice AW fs.length cW) (.slice AT fs.length cT) w.heap.size)) (okp := fun _ => False) ?hr (Reps.one (show Kd.M Kd.string _ _ _ (ofL a) [.string (ofL a)] from rfl) (Reps.none _ _)) (fun _ hk => hk.elim) (qR.out.fresh (Nat.le_refl _)) qW.out (below_size qW.out) (by simp) ?_
                            (case hr => first | (go_simp; done) | (go_simp; rfl))
                            intro v130 w130 ho hb hg hn
                            obtain ⟨A130, c130, rfl, hc130, _⟩ := Kd.R_reads ho
                            have p1 := Aside0.mk (Kd.R_F ho)
                            have hbN := below_noneR hg hb qW.out
                            replace qX := Aside0.mk (blk_below qX.out hbN)
                            replace qR := Aside0.mk (qR.out.below hbN)
                            replace q8 := Aside0.mk (foot_below q8.out hbN)
                            replace p2 := Aside0.mk (foot_below p2.out hbN)
                            replace p3 := Aside0.mk (foot_below p3.out hbN)
                            replace qW := Aside0.mk hb
                            clear ho hb hg hn hbN hc130
                            refine hK.out _ _ ⟨(blk_cell qX.out 0).trans rfl, (blk_cell qX.out 1).trans rfl, (blk_cell qX.out 2).trans rfl, pw_cell_below qW.out HW1.out, pw_cell_below qW.out HW2.out⟩ (fun hHeld => ?_)
                            clear hK K
                            refine norm_ (a' := ?_) ?_ ?_
                            rotate_left
                            · show Act.put _ (some 130) _ = _
                              simp only [Act.put, List.setIfInBounds_toArray, List.set_cons_zero, List.set_cons_succ, i64_w, i32_w]
                              rfl
                            refine one_ (i := 11) (N := some 131) #[true, true, true, true, true, true, true, true, true, true, true, true, true, true, true, true, true, true, true, true, false, true, true, true, true, true, true, false, false, false, false, false, false, false, false, false, false] rfl rfl (by kernel_rfl) (by decide) (fun K hK => ?_)
                            refine Kd.R_append_rows_step Kd.string (w0 := w) w.heap.size (by rfl) (.tmp 126) (.tmp 130) 29 9 (.string ⟨#[]⟩) 16 rfl Tryd.underlying29 PA.info9 rfl (by decide) (by omega) (.slice AL fs.length cL) (lsOf fs) [ofL a] A130 [ofL a].length c130 (fun _ => True) (fun _ => False) (by rfl) (by rfl) qR.out.L (Kd.F_now p1.out) (fun _ _ h_ => h_) (fun _ h_ => h_.elim) (fun _ _ => trivial) qW.out (below_size qW.out) (by rw [lsOf_len]; simp only [List.length_cons, List.length_nil]; omega) ?_
                            intro v131 w131 ho hb hg hn
                            clear p1
                            replace p2 := Aside0.mk (foot_L p2.out hg hn)
                            replace p3 := Aside0.mk (foot_L p3.out hg hn)
                            replace q8 := Aside0.mk (foot_L q8.out hg hn)
                            replace qX := Aside0.mk (blk_grown qX.out hg qR.out.B_L)
                            replace qR := Aside0.mk (qR.out.appL ho hg hn)
                            replace qW := Aside0.mk hb
                            clear ho hb hg hn
                            refine hK.out _ _ ⟨(blk_cell qX.out 0).trans rfl, (blk_cell qX.out 1).trans rfl, (blk_cell qX.out 2).trans rfl, pw_cell_below qW.out HW1.out, pw_cell_below qW.out HW2.out⟩ (fun hHeld => ?_)
                            clear hK K
                            refine norm_ (a' := ?_) ?_ ?_
                            rotate_left
                            · show Act.put _ (some 131) _ = _
                              simp only [Act.put, List.setIfInBounds_toArray, List.set_cons_zero, List.set_cons_succ, i64_w, i32_w]
                              rfl
                            refine one_ (i := 20) (N := some 140) #[true, true, true, true, true, true, true, true, true, true, true, true, true, true, true, true, true, true, true, true, true, true, true, true, true, true, true, false, false, false, false, false, false, false, false, false, false] rfl rfl (by kernel_rfl) (by decide) (fun K hK => ?_)
                            refine Kd.R_append_rows_step Kd.string (w0 := w) w.heap.size (by rfl) (.tmp 135) (.tmp 139) 29 9 (.string ⟨#[]⟩) 16 rfl Tryd.underlying29 PA.info9 rfl (by decide) (by omega) (.slice AW fs.length cW) (wsOf fs) [ofL b] A139 [ofL b].length c139 (fun _ => True) (fun _ => False) (by rfl) (by rfl) qR.out.W (Kd.F_now p2.out) (fun _ _ h_ => h_) (fun _ h_ => h_.elim) (fun _ _ => trivial) qW.out (below_size qW.out) (by rw [wsOf_len]; simp only [List.length_cons, List.length_nil]; omega) ?_
                            intro v140 w140 ho hb hg hn
                            clear p2
                            replace p3 := Aside0.mk (foot_W p3.out hg hn)
                            replace q8 := Aside0.mk (foot_W q8.out hg hn)
                            replace qX := Aside0.mk (blk_grown qX.out hg qR.out.B_W)
                            replace qR := Aside0.mk (qR.out.appW ho hg hn)
                            replace qW := Aside0.mk hb
                            clear ho hb hg hn
                            refine hK.out _ _ ⟨(blk_cell qX.out 0).trans rfl, (blk_cell qX.out 1).trans rfl, (blk_cell qX.out 2).trans rfl, pw_cell_below qW.out HW1.out, pw_cell_below qW.out HW2.out⟩ (fun hHeld => ?_)
                            clear hK K
                            refine norm_ (a' := ?_) ?_ ?_
                            rotate_left
                            · show Act.put _ (some 140) _ = _
                              simp only [Act.put, List.setIfInBounds_toArray, List.set_cons_zero, List.set_cons_succ, i64_w, i32_w]
                              rfl
                            exact norm_ (by simp only [putAll, Act.put, List.setIfInBounds_toArray, List.set_cons_zero, List.set_cons_succ]) (hCont (.slice A130 [ofL a].length c130, v131, .slice A139 [ofL b].length c139, v140, A146, c146) _ ⟨qR.out, qX.out, qW.out, p3.out⟩)
                        · skip
                          refine Kd.N_lit_step kStrs (w0 := w) w.heap.size 29 (by rfl) (N' := 146) rfl (xs := ([tl] : List (List ByteArray))) (inner := [.slice A8 4 c8]) (ok := (apart (.slice AL fs.length cL) (.slice AW fs.length cW) (.slice AT fs.length cT) w.heap.size)) (okp := (apart (.slice AL fs.length cL) (.slice AW fs.length cW) (.slice AT fs.length cT) w.heap.size)) ?hr (Reps.one q8.out (Reps.none _ _)) (fun _ hk => hk) (qR.out.fresh (Nat.le_refl _)) qW.out (below_size qW.out) (by simp) ?_
                          (case hr => first | (go_simp; done) | (go_simp; rfl))
                          intro v146 w146 ho hb hg hn
                          obtain ⟨A146, c146, rfl, hc146, _⟩ := Kd.N_reads ho
                          have p3 := Aside0.mk (Kd.N_F ho)
                          have hbN := below_noneR hg hb qW.out
                          replace qX := Aside0.mk (blk_below qX.out hbN)
                          replace qR := Aside0.mk (qR.out.below hbN)
                          replace q8 := Aside0.mk (foot_below q8.out hbN)
                          replace qW := Aside0.mk hb
                          clear ho hb hg hn hbN hc146
                          refine hK.out _ _ ⟨(blk_cell qX.out 0).trans rfl, (blk_cell qX.out 1).trans rfl, (blk_cell qX.out 2).trans rfl, pw_cell_below qW.out HW1.out, pw_cell_below qW.out HW2.out⟩ (fun hHeld => ?_)
                          clear hK K
                          refine norm_ (a' := ?_) ?_ ?_
                          rotate_left
                          · show Act.put _ (some 146) _ = _
                            simp only [Act.put, List.setIfInBounds_toArray, List.set_cons_zero, List.set_cons_succ, i64_w, i32_w]
                            rfl
                          refine two_ (i := 10) (j := 19) (Ni := some 130) (Nj := some 139) #[true, true, true, true, true, true, true, true, true, true, true, false, true, true, true, true, true, true, true, false, false, true, true, true, true, true, true, false, false, false, false, false, false, false, false, false, false] #[true, true, true, true, true, true, true, true, true, true, false, false, true, true, true, true, true, true, true, true, false, true, true, true, true, true, true, false, false, false, false, false, false, false, false, false, false] rfl rfl rfl rfl (by kernel_rfl) (by decide) (by decide) (fun K hK => ?_) (fun K hK => ?_)
                          · skip
                            refine Kd.R_lit_step Kd.string (w0 := w) w.heap.size 9 (by rfl) (N := 130) rfl (xs := ([ofL a] : List ByteArray)) (inner := [.string (ofL a)]) (ok := (apart (.slice AL fs.length cL) (.slice AW fs.length cW) (.slice AT fs.length cT) w.heap.size)) (okp := fun _ => False) ?hr (Reps.one (show Kd.M Kd.string _ _ _ (ofL a) [.string (ofL a)] from rfl) (Reps.none _ _)) (fun _ hk => hk.elim) (qR.out.fresh (Nat.le_refl _)) qW.out (below_size qW.out) (by simp) ?_
                            (case hr => first | (go_simp; done) | (go_simp; rfl))
                            intro v130 w130 ho hb hg hn
                            obtain ⟨A130, c130, rfl, hc130, _⟩ := Kd.R_reads ho
                            have p1 := Aside0.mk (Kd.R_F ho)
                            have hbN := below_noneR hg hb qW.out
                            replace qX := Aside0.mk (blk_below qX.out hbN)
                            replace qR := Aside0.mk (qR.out.below hbN)
                            replace q8 := Aside0.mk (foot_below q8.out hbN)
                            replace p3 := Aside0.mk (foot_below p3.out hbN)
                            replace qW := Aside0.mk hb
                            clear ho hb hg hn hbN hc130
                            refine hK.out _ _ ⟨(blk_cell qX.out 0).trans rfl, (blk_cell qX.out 1).trans rfl, (blk_cell qX.out 2).trans rfl, pw_cell_below qW.out HW1.out, pw_cell_below qW.out HW2.out⟩ (fun hHeld => ?_)
                            clear hK K
                            refine norm_ (a' := ?_) ?_ ?_
                            rotate_left
                            · show Act.put _ (some 130) _ = _
                              simp only [Act.put, List.setIfInBounds_toArray, List.set_cons_zero, List.set_cons_succ, i64_w, i32_w]
                              rfl
                            refine two_ (i := 11) (j := 19) (Ni := some 131) (Nj := some 139) #[true, true, true, true, true, true, true, true, true, true, true, true, true, true, true, true, true, true, true, false, false, true, true, true, true, true, true, false, false, false, false, false, false, false, false, false, false] #[true, true, true, true, true, true, true, true, true, true, true, false, true, true, true, true, true, true, true, true, false, true, true, true, true, true, true, false, false, false, false, false, false, false, false, false, false] rfl rfl rfl rfl (by kernel_rfl) (by decide) (by decide) (fun K hK => ?_) (fun K hK => ?_)
                            · skip
                              refine Kd.R_append_rows_step Kd.string (w0 := w) w.heap.size (by rfl) (.tmp 126) (.tmp 130) 29 9 (.string ⟨#[]⟩) 16 rfl Tryd.underlying29 PA.info9 rfl (by decide) (by omega) (.slice AL fs.length cL) (lsOf fs) [ofL a] A130 [ofL a].length c130 (fun _ => True) (fun _ => False) (by rfl) (by rfl) qR.out.L (Kd.F_now p1.out) (fun _ _ h_ => h_) (fun _ h_ => h_.elim) (fun _ _ => trivial) qW.out (below_size qW.out) (by rw [lsOf_len]; simp only [List.length_cons, List.length_nil]; omega) ?_
                              intro v131 w131 ho hb hg hn
                              clear p1
                              replace p3 := Aside0.mk (foot_L p3.out hg hn)
                              replace q8 := Aside0.mk (foot_L q8.out hg hn)
                              replace qX := Aside0.mk (blk_grown qX.out hg qR.out.B_L)
                              replace qR := Aside0.mk (qR.out.appL ho hg hn)
                              replace qW := Aside0.mk hb
                              clear ho hb hg hn
                              refine hK.out _ _ ⟨(blk_cell qX.out 0).trans rfl, (blk_cell qX.out 1).trans rfl, (blk_cell qX.out 2).trans rfl, pw_cell_below qW.out HW1.out, pw_cell_below qW.out HW2.out⟩ (fun hHeld => ?_)
                              clear hK K
                              refine norm_ (a' := ?_) ?_ ?_
                              rotate_left
                              · show Act.put _ (some 131) _ = _
                                simp only [Act.put, List.setIfInBounds_toArray, List.set_cons_zero, List.set_cons_succ, i64_w, i32_w]
                                rfl
                              refine one_ (i := 19) (N := some 139) #[true, true, true, true, true, true, true, true, true, true, true, true, true, true, true, true, true, true, true, true, false, true, true, true, true, true, true, false, false, false, false, false, false, false, false, false, false] rfl rfl (by kernel_rfl) (by decide) (fun K hK => ?_)
                              refine Kd.R_lit_step Kd.string (w0 := w) w.heap.size 9 (by rfl) (N := 139) rfl (xs := ([ofL b] : List ByteArray)) (inner := [.string (ofL b)]) (ok := (apart v131 (.slice AW fs.length cW) (.slice AT fs.length cT) w.heap.size)) (okp := fun _ => False) ?hr (Reps.one (show Kd.M Kd.string _ _ _ (ofL b) [.string (ofL b)] from rfl) (Reps.none _ _)) (fun _ hk => hk.elim) (qR.out.fresh (Nat.le_refl _)) qW.out (below_size qW.out) (by simp) ?_
                              (case hr => first | (go_simp; done) | (go_simp; rfl))
                              intro v139 w139 ho hb hg hn
                              obtain ⟨A139, c139, rfl, hc139, _⟩ := Kd.R_reads ho
                              have p2 := Aside0.mk (Kd.R_F ho)
                              have hbN := below_noneR hg hb qW.out
                              replace qX := Aside0.mk (blk_below qX.out hbN)
                              replace qR := Aside0.mk (qR.out.below hbN)
                              replace q8 := Aside0.mk (foot_below q8.out hbN)
                              replace p3 := Aside0.mk (foot_below p3.out hbN)
                              replace qW := Aside0.mk hb
                              clear ho hb hg hn hbN hc139
                              refine hK.out _ _ ⟨(blk_cell qX.out 0).trans rfl, (blk_cell qX.out 1).trans rfl, (blk_cell qX.out 2).trans rfl, pw_cell_below qW.out HW1.out, pw_cell_below qW.out HW2.out⟩ (fun hHeld => ?_)
                              clear hK K
                              refine norm_ (a' := ?_) ?_ ?_
                              rotate_left
                              · show Act.put _ (some 139) _ = _
                                simp only [Act.put, List.setIfInBounds_toArray, List.set_cons_zero, List.set_cons_succ, i64_w, i32_w]
                                rfl
                              refine one_ (i := 20) (N := some 140) #[true, true, true, true, true, true, true, true, true, true, true, true, true, true, true, true, true, true, true, true, true, true, true, true, true, true, true, false, false, false, false, false, false, false, false, false, false] rfl rfl (by kernel_rfl) (by decide) (fun K hK => ?_)
                              refine Kd.R_append_rows_step Kd.string (w0 := w) w.heap.size (by rfl) (.tmp 135) (.tmp 139) 29 9 (.string ⟨#[]⟩) 16 rfl Tryd.underlying29 PA.info9 rfl (by decide) (by omega) (.slice AW fs.length cW) (wsOf fs) [ofL b] A139 [ofL b].length c139 (fun _ => True) (fun _ => False) (by rfl) (by rfl) qR.out.W (Kd.F_now p2.out) (fun _ _ h_ => h_) (fun _ h_ => h_.elim) (fun _ _ => trivial) qW.out (below_size qW.out) (by rw [wsOf_len]; simp only [List.length_cons, List.length_nil]; omega) ?_
                              intro v140 w140 ho hb hg hn
                              clear p2
                              replace p3 := Aside0.mk (foot_W p3.out hg hn)
                              replace q8 := Aside0.mk (foot_W q8.out hg hn)
                              replace qX := Aside0.mk (blk_grown qX.out hg qR.out.B_W)
                              replace qR := Aside0.mk (qR.out.appW ho hg hn)
                              replace qW := Aside0.mk hb
                              clear ho hb hg hn
                              refine hK.out _ _ ⟨(blk_cell qX.out 0).trans rfl, (blk_cell qX.out 1).trans rfl, (blk_cell qX.out 2).trans rfl, pw_cell_below qW.out HW1.out, pw_cell_below qW.out HW2.out⟩ (fun hHeld => ?_)
                              clear hK K
                              refine norm_ (a' := ?_) ?_ ?_
                              rotate_left
                              · show Act.put _ (some 140) _ = _
                                simp only [Act.put, List.setIfInBounds_toArray, List.set_cons_zero, List.set_cons_succ, i64_w, i32_w]
                                rfl
                              exact norm_ (by simp only [putAll, Act.put, List.setIfInBounds_toArray, List.set_cons_zero, List.set_cons_succ]) (hCont (.slice A130 [ofL a].length c130, v131, .slice A139 [ofL b].length c139, v140, A146, c146) _ ⟨qR.out, qX.out, qW.out, p3.out⟩)
                            · skip
                              refine Kd.R_lit_step Kd.string (w0 := w) w.heap.size 9 (by rfl) (N := 139) rfl (xs := ([ofL b] : List ByteArray)) (inner := [.string (ofL b)]) (ok := (apart (.slice AL fs.length cL) (.slice AW fs.length cW) (.slice AT fs.length cT) w.heap.size)) (okp := fun _ => False) ?hr (Reps.one (show Kd.M Kd.string _ _ _ (ofL b) [.string (ofL b)] from rfl) (Reps.none _ _)) (fun _ hk => hk.elim) (qR.out.fresh (Nat.le_refl _)) qW.out (below_size qW.out) (by simp) ?_
                              (case hr => first | (go_simp; done) | (go_simp; rfl))
                              intro v139 w139 ho hb hg hn
                              obtain ⟨A139, c139, rfl, hc139, _⟩ := Kd.R_reads ho
                              have p2 := Aside0.mk (Kd.R_F ho)
                              have hbN := below_noneR hg hb qW.out
                              replace qX := Aside0.mk (blk_below qX.out hbN)
                              replace qR := Aside0.mk (qR.out.below hbN)
                              replace q8 := Aside0.mk (foot_below q8.out hbN)
                              replace p1 := Aside0.mk (foot_below p1.out hbN)
                              replace p3 := Aside0.mk (foot_below p3.out hbN)
                              replace qW := Aside0.mk hb
                              clear ho hb hg hn hbN hc139
                              refine hK.out _ _ ⟨(blk_cell qX.out 0).trans rfl, (blk_cell qX.out 1).trans rfl, (blk_cell qX.out 2).trans rfl, pw_cell_below qW.out HW1.out, pw_cell_below qW.out HW2.out⟩ (fun hHeld => ?_)
                              clear hK K
                              refine norm_ (a' := ?_) ?_ ?_
                              rotate_left
                              · show Act.put _ (some 139) _ = _
                                simp only [Act.put, List.setIfInBounds_toArray, List.set_cons_zero, List.set_cons_succ, i64_w, i32_w]
                                rfl
                              refine one_ (i := 11) (N := some 131) #[true, true, true, true, true, true, true, true, true, true, true, true, true, true, true, true, true, true, true, true, false, true, true, true, true, true, true, false, false, false, false, false, false, false, false, false, false] rfl rfl (by kernel_rfl) (by decide) (fun K hK => ?_)
                              refine Kd.R_append_rows_step Kd.string (w0 := w) w.heap.size (by rfl) (.tmp 126) (.tmp 130) 29 9 (.string ⟨#[]⟩) 16 rfl Tryd.underlying29 PA.info9 rfl (by decide) (by omega) (.slice AL fs.length cL) (lsOf fs) [ofL a] A130 [ofL a].length c130 (fun _ => True) (fun _ => False) (by rfl) (by rfl) qR.out.L (Kd.F_now p1.out) (fun _ _ h_ => h_) (fun _ h_ => h_.elim) (fun _ _ => trivial) qW.out (below_size qW.out) (by rw [lsOf_len]; simp only [List.length_cons, List.length_nil]; omega) ?_
                              intro v131 w131 ho hb hg hn
                              clear p1
                              replace p2 := Aside0.mk (foot_L p2.out hg hn)
                              replace p3 := Aside0.mk (foot_L p3.out hg hn)
                              replace q8 := Aside0.mk (foot_L q8.out hg hn)
                              replace qX := Aside0.mk (blk_grown qX.out hg qR.out.B_L)
                              replace qR := Aside0.mk (qR.out.appL ho hg hn)
                              replace qW := Aside0.mk hb
                              clear ho hb hg hn
                              refine hK.out _ _ ⟨(blk_cell qX.out 0).trans rfl, (blk_cell qX.out 1).trans rfl, (blk_cell qX.out 2).trans rfl, pw_cell_below qW.out HW1.out, pw_cell_below qW.out HW2.out⟩ (fun hHeld => ?_)
                              clear hK K
                              refine norm_ (a' := ?_) ?_ ?_
                              rotate_left
                              · show Act.put _ (some 131) _ = _
                                simp only [Act.put, List.setIfInBounds_toArray, List.set_cons_zero, List.set_cons_succ, i64_w, i32_w]
                                rfl
                              refine one_ (i := 20) (N := some 140) #[true, true, true, true, true, true, true, true, true, true, true, true, true, true, true, true, true, true, true, true, true, true, true, true, true, true, true, false, false, false, false, false, false, false, false, false, false] rfl rfl (by kernel_rfl) (by decide) (fun K hK => ?_)
                              refine Kd.R_append_rows_step Kd.string (w0 := w) w.heap.size (by rfl) (.tmp 135) (.tmp 139) 29 9 (.string ⟨#[]⟩) 16 rfl Tryd.underlying29 PA.info9 rfl (by decide) (by omega) (.slice AW fs.length cW) (wsOf fs) [ofL b] A139 [ofL b].length c139 (fun _ => True) (fun _ => False) (by rfl) (by rfl) qR.out.W (Kd.F_now p2.out) (fun _ _ h_ => h_) (fun _ h_ => h_.elim) (fun _ _ => trivial) qW.out (below_size qW.out) (by rw [wsOf_len]; simp only [List.length_cons, List.length_nil]; omega) ?_
                              intro v140 w140 ho hb hg hn
                              clear p2
                              replace p3 := Aside0.mk (foot_W p3.out hg hn)
                              replace q8 := Aside0.mk (foot_W q8.out hg hn)
                              replace qX := Aside0.mk (blk_grown qX.out hg qR.out.B_W)
                              replace qR := Aside0.mk (qR.out.appW ho hg hn)
                              replace qW := Aside0.mk hb
                              clear ho hb hg hn
                              refine hK.out _ _ ⟨(blk_cell qX.out 0).trans rfl, (blk_cell qX.out 1).trans rfl, (blk_cell qX.out 2).trans rfl, pw_cell_below qW.out HW1.out, pw_cell_below qW.out HW2.out⟩ (fun hHeld => ?_)
                              clear hK K
                              refine norm_ (a' := ?_) ?_ ?_
                              rotate_left
                              · show Act.put _ (some 140) _ = _
                                simp only [Act.put, List.setIfInBounds_toArray, List.set_cons_zero, List.set_cons_succ, i64_w, i32_w]
                                rfl
                              exact norm_ (by simp only [putAll, Act.put, List.setIfInBounds_toArray, List.set_cons_zero, List.set_cons_succ]) (hCont (.slice A130 [ofL a].length c130, v131, .slice A139 [ofL b].length c139, v140, A146, c146) _ ⟨qR.out, qX.out, qW.out, p3.out⟩)
                          · skip
                            refine Kd.R_lit_step Kd.string (w0 := w) w.heap.size 9 (by rfl) (N := 139) rfl (xs := ([ofL b] : List ByteArray)) (inner := [.string (ofL b)]) (ok := (apart (.slice AL fs.length cL) (.slice AW fs.length cW) (.slice AT fs.length cT) w.heap.size)) (okp := fun _ => False) ?hr (Reps.one (show Kd.M Kd.string _ _ _ (ofL b) [.string (ofL b)] from rfl) (Reps.none _ _)) (fun _ hk => hk.elim) (qR.out.fresh (Nat.le_refl _)) qW.out (below_size qW.out) (by simp) ?_
                            (case hr => first | (go_simp; done) | (go_simp; rfl))
                            intro v139 w139 ho hb hg hn
                            obtain ⟨A139, c139, rfl, hc139, _⟩ := Kd.R_reads ho
                            have p2 := Aside0.mk (Kd.R_F ho)
                            have hbN := below_noneR hg hb qW.out
                            replace qX := Aside0.mk (blk_below qX.out hbN)
                            replace qR := Aside0.mk (qR.out.below hbN)
                            replace q8 := Aside0.mk (foot_below q8.out hbN)
                            replace p3 := Aside0.mk (foot_below p3.out hbN)
                            replace qW := Aside0.mk hb
                            clear ho hb hg hn hbN hc139
                            refine hK.out _ _ ⟨(blk_cell qX.out 0).trans rfl, (blk_cell qX.out 1).trans rfl, (blk_cell qX.out 2).trans rfl, pw_cell_below qW.out HW1.out, pw_cell_below qW.out HW2.out⟩ (fun hHeld => ?_)
                            clear hK K
                            refine norm_ (a' := ?_) ?_ ?_
                            rotate_left
                            · show Act.put _ (some 139) _ = _
                              simp only [Act.put, List.setIfInBounds_toArray, List.set_cons_zero, List.set_cons_succ, i64_w, i32_w]
                              rfl
                            refine one_ (i := 10) (N := some 130) #[true, true, true, true, true, true, true, true, true, true, true, false, true, true, true, true, true, true, true, true, false, true, true, true, true, true, true, false, false, false, false, false, false, false, false, false, false] rfl rfl (by kernel_rfl) (by decide) (fun K hK => ?_)
                            refine Kd.R_lit_step Kd.string (w0 := w) w.heap.size 9 (by rfl) (N := 130) rfl (xs := ([ofL a] : List ByteArray)) (inner := [.string (ofL a)]) (ok := (apart (.slice AL fs.length cL) (.slice AW fs.length cW) (.slice AT fs.length cT) w.heap.size)) (okp := fun _ => False) ?hr (Reps.one (show Kd.M Kd.string _ _ _ (ofL a) [.string (ofL a)] from rfl) (Reps.none _ _)) (fun _ hk => hk.elim) (qR.out.fresh (Nat.le_refl _)) qW.out (below_size qW.out) (by simp) ?_
                            (case hr => first | (go_simp; done) | (go_simp; rfl))
                            intro v130 w130 ho hb hg hn
                            obtain ⟨A130, c130, rfl, hc130, _⟩ := Kd.R_reads ho
                            have p1 := Aside0.mk (Kd.R_F ho)
                            have hbN := below_noneR hg hb qW.out
                            replace qX := Aside0.mk (blk_below qX.out hbN)
                            replace qR := Aside0.mk (qR.out.below hbN)
                            replace q8 := Aside0.mk (foot_below q8.out hbN)
                            replace p2 := Aside0.mk (foot_below p2.out hbN)
                            replace p3 := Aside0.mk (foot_below p3.out hbN)
                            replace qW := Aside0.mk hb
                            clear ho hb hg hn hbN hc130
                            refine hK.out _ _ ⟨(blk_cell qX.out 0).trans rfl, (blk_cell qX.out 1).trans rfl, (blk_cell qX.out 2).trans rfl, pw_cell_below qW.out HW1.out, pw_cell_below qW.out HW2.out⟩ (fun hHeld => ?_)
                            clear hK K
                            refine norm_ (a' := ?_) ?_ ?_
                            rotate_left
                            · show Act.put _ (some 130) _ = _
                              simp only [Act.put, List.setIfInBounds_toArray, List.set_cons_zero, List.set_cons_succ, i64_w, i32_w]
                              rfl
                            refine one_ (i := 11) (N := some 131) #[true, true, true, true, true, true, true, true, true, true, true, true, true, true, true, true, true, true, true, true, false, true, true, true, true, true, true, false, false, false, false, false, false, false, false, false, false] rfl rfl (by kernel_rfl) (by decide) (fun K hK => ?_)
                            refine Kd.R_append_rows_step Kd.string (w0 := w) w.heap.size (by rfl) (.tmp 126) (.tmp 130) 29 9 (.string ⟨#[]⟩) 16 rfl Tryd.underlying29 PA.info9 rfl (by decide) (by omega) (.slice AL fs.length cL) (lsOf fs) [ofL a] A130 [ofL a].length c130 (fun _ => True) (fun _ => False) (by rfl) (by rfl) qR.out.L (Kd.F_now p1.out) (fun _ _ h_ => h_) (fun _ h_ => h_.elim) (fun _ _ => trivial) qW.out (below_size qW.out) (by rw [lsOf_len]; simp only [List.length_cons, List.length_nil]; omega) ?_
                            intro v131 w131 ho hb hg hn
                            clear p1
                            replace p2 := Aside0.mk (foot_L p2.out hg hn)
                            replace p3 := Aside0.mk (foot_L p3.out hg hn)
                            replace q8 := Aside0.mk (foot_L q8.out hg hn)
                            replace qX := Aside0.mk (blk_grown qX.out hg qR.out.B_L)
                            replace qR := Aside0.mk (qR.out.appL ho hg hn)
                            replace qW := Aside0.mk hb
                            clear ho hb hg hn
                            refine hK.out _ _ ⟨(blk_cell qX.out 0).trans rfl, (blk_cell qX.out 1).trans rfl, (blk_cell qX.out 2).trans rfl, pw_cell_below qW.out HW1.out, pw_cell_below qW.out HW2.out⟩ (fun hHeld => ?_)
                            clear hK K
                            refine norm_ (a' := ?_) ?_ ?_
                            rotate_left
                            · show Act.put _ (some 131) _ = _
                              simp only [Act.put, List.setIfInBounds_toArray, List.set_cons_zero, List.set_cons_succ, i64_w, i32_w]
                              rfl
                            refine one_ (i := 20) (N := some 140) #[true, true, true, true, true, true, true, true, true, true, true, true, true, true, true, true, true, true, true, true, true, true, true, true, true, true, true, false, false, false, false, false, false, false, false, false, false] rfl rfl (by kernel_rfl) (by decide) (fun K hK => ?_)
                            refine Kd.R_append_rows_step Kd.string (w0 := w) w.heap.size (by rfl) (.tmp 135) (.tmp 139) 29 9 (.string ⟨#[]⟩) 16 rfl Tryd.underlying29 PA.info9 rfl (by decide) (by omega) (.slice AW fs.length cW) (wsOf fs) [ofL b] A139 [ofL b].length c139 (fun _ => True) (fun _ => False) (by rfl) (by rfl) qR.out.W (Kd.F_now p2.out) (fun _ _ h_ => h_) (fun _ h_ => h_.elim) (fun _ _ => trivial) qW.out (below_size qW.out) (by rw [wsOf_len]; simp only [List.length_cons, List.length_nil]; omega) ?_
                            intro v140 w140 ho hb hg hn
                            clear p2
                            replace p3 := Aside0.mk (foot_W p3.out hg hn)
                            replace q8 := Aside0.mk (foot_W q8.out hg hn)
                            replace qX := Aside0.mk (blk_grown qX.out hg qR.out.B_W)
                            replace qR := Aside0.mk (qR.out.appW ho hg hn)
                            replace qW := Aside0.mk hb
                            clear ho hb hg hn
                            refine hK.out _ _ ⟨(blk_cell qX.out 0).trans rfl, (blk_cell qX.out 1).trans rfl, (blk_cell qX.out 2).trans rfl, pw_cell_below qW.out HW1.out, pw_cell_below qW.out HW2.out⟩ (fun hHeld => ?_)
                            clear hK K
                            refine norm_ (a' := ?_) ?_ ?_
                            rotate_left
                            · show Act.put _ (some 140) _ = _
                              simp only [Act.put, List.setIfInBounds_toArray, List.set_cons_zero, List.set_cons_succ, i64_w, i32_w]
                              rfl
                            exact norm_ (by simp only [putAll, Act.put, List.setIfInBounds_toArray, List.set_cons_zero, List.set_cons_succ]) (hCont (.slice A130 [ofL a].length c130, v131, .slice A139 [ofL b].length c139, v140, A146, c146) _ ⟨qR.out, qX.out, qW.out, p3.out⟩)
                      rintro ⟨v130, v131, v139, v140, A146, c146⟩ wj ⟨hj1, hj2, hj3, hj4⟩
                      dsimp only at hj1 hj4
                      clear qR qX qW q8
                      have qR := Aside0.mk hj1
                      have qX := Aside0.mk hj2
                      have qW := Aside0.mk hj3
                      have p3 := Aside0.mk hj4
                      clear hj1 hj2 hj3 hj4
                      have hHeld : wj.cell? ⟨w.heap.size, 0, none⟩ = some (.slice AL fs.length cL) ∧ wj.cell? ⟨w.heap.size, 1, none⟩ = some (.slice AW fs.length cW) ∧ wj.cell? ⟨w.heap.size, 2, none⟩ = some (.slice AT fs.length cT) ∧ wj.cell? ⟨b1, o1 + 1, none⟩ = some (.string (ofL a)) ∧ wj.cell? ⟨b1, o1 + 2, none⟩ = some (.string (ofL b)) := ⟨(blk_cell qX.out 0).trans rfl, (blk_cell qX.out 1).trans rfl, (blk_cell qX.out 2).trans rfl, pw_cell_below qW.out HW1.out, pw_cell_below qW.out HW2.out⟩
                      refine norm_ (a' := ?_) ?_ ?_
                      rotate_left
                      · simp only [putAll, Act.put, List.setIfInBounds_toArray, List.set_cons_zero, List.set_cons_succ]
                        rfl
                      refine one_ (i := 27) (N := some 147) #[true, true, true, true, true, true, true, true, true, true, true, true, true, true, true, true, true, true, true, true, true, true, true, true, true, true, true, true, false, false, false, false, false, false, false, false, false] rfl rfl (by kernel_rfl) (by decide) (fun K hK => ?_)
                      refine Kd.N_append_rows_step kStrs (w0 := w) w.heap.size (by rfl) (.tmp 144) (.tmp 146) 43 29 (.slice none 0 0) 24 rfl Tryd.underlying43 PA.info29 rfl (by decide) (by omega) (.slice AT fs.length cT) (tsOf fs) [tl] A146 [tl].length c146 (fun k => some k ≠ v131.ownBlock ∧ some k ≠ v140.ownBlock ∧ k ≠ w.heap.size) (apart v131 v140 (.slice AT fs.length cT) w.heap.size) (by rfl) (by rfl) qR.out.T p3.out (fun k hk => ⟨⟨hk.1, hk.2.1, hk.2.2.2⟩, hk.2.2.1⟩) (fun k hk => ⟨(qR.out.fresh hk).1, (qR.out.fresh hk).2.1, (qR.out.fresh hk).2.2.2⟩) qW.out (below_size qW.out) (by rw [tsOf_len]; simp only [List.length_cons, List.length_nil]; omega) ?_
                      intro v147 w147 ho hb hg hn
                      replace qX := Aside0.mk (blk_grown qX.out hg qR.out.B_T)
                      replace qR := Aside0.mk (qR.out.appT ho hg)
                      replace qW := Aside0.mk hb
                      clear ho hb hg hn
                      refine hK.out _ _ ⟨(blk_cell qX.out 0).trans rfl, (blk_cell qX.out 1).trans rfl, (blk_cell qX.out 2).trans rfl, pw_cell_below qW.out HW1.out, pw_cell_below qW.out HW2.out⟩ (fun hHeld => ?_)
                      clear hK K
                      refine norm_ (a' := ?_) ?_ ?_
                      rotate_left
                      · show Act.put _ (some 147) _ = _
                        simp only [Act.put, List.setIfInBounds_toArray, List.set_cons_zero, List.set_cons_succ, i64_w, i32_w]
                        rfl
                      refine pure_ (i := 28) (N := some 148) (v := ?_) (a' := ?_) #[true, true, true, true, true, true, true, true, true, true, true, true, true, true, true, true, true, true, true, true, true, true, true, true, true, true, true, true, true, false, false, false, false, false, false, false, false] rfl rfl (by kernel_rfl) (fun _ _ _ h => h) (Or.inl ⟨by rfl, ?_⟩) ?_ ?_
                      rotate_left
                      · intro w'
                        go_simp
                        with_reducible rfl
                      rotate_left
                      · simp only [Act.put, List.setIfInBounds_toArray, List.set_cons_zero, List.set_cons_succ, i64_w, i32_w]
                        rfl
                      refine pure_ (i := 29) (N := some 149) (v := ?_) (a' := ?_) #[true, true, true, true, true, true, true, true, true, true, true, true, true, true, true, true, true, true, true, true, true, true, true, true, true, true, true, true, true, true, false, false, false, false, false, false, false] rfl rfl (by kernel_rfl) (fun _ _ _ h => h) (Or.inl ⟨by rfl, ?_⟩) ?_ ?_
                      rotate_left
                      · intro w'
                        go_simp
                        with_reducible rfl
                      rotate_left
                      · simp only [Act.put, List.setIfInBounds_toArray, List.set_cons_zero, List.set_cons_succ, i64_w, i32_w]
                        rfl
                      refine last_ (i := 30) (N := none) #[true, true, true, true, true, true, true, true, true, true, true, true, true, true, true, true, true, true, true, true, true, true, true, true, true, true, true, true, true, true, true, false, false, false, false, false, false] rfl rfl (by kernel_rfl) (by decide) (fun K hK => ?_)
                      obtain ⟨A131, n131, c131, rfl⟩ : ∃ A n c, v131 = .slice A n c := by obtain ⟨A, c, e⟩ := Kd.R_slice qR.out.L; exact ⟨A, _, c, e⟩
                      have y0 : w147.cell? ⟨w.heap.size, 0, none⟩ = some (.slice AL fs.length cL) := (blk_cell qX.out 0).trans rfl
                      have g0 : w147.frozen? ⟨w.heap.size, 0, none⟩ = false := blk_frozen qX.out 0
                      refine skip_ (w1 := ?_) (by rfl) rfl ?_ ?_
                      rotate_left
                      · go_simp
                        rfl
                      replace qX : Aside0 ((w147.setCell ⟨w.heap.size, 0, none⟩ (.slice A131 n131 c131)).heap[w.heap.size]? = some (.cells #[(.slice A131 n131 c131), (.slice AW fs.length cW), (.slice AT fs.length cT)] 120 (0, 0))) := ⟨blk_put qX.out 0 (.slice A131 n131 c131) rfl⟩
                      replace qR := Aside0.mk (qR.out.store 0 (.slice A131 n131 c131))
                      replace qW : Aside0 (Below w.heap.size w (w147.setCell ⟨w.heap.size, 0, none⟩ (.slice A131 n131 c131))) := ⟨qW.out.setCell (Nat.le_refl _) _⟩
                      refine hK.out _ _ ?_
                      clear hK K
                      refine pure_ (i := 31) (N := some 150) (v := ?_) (a' := ?_) #[true, true, true, true, true, true, true, true, true, true, true, true, true, true, true, true, true, true, true, true, true, true, true, true, true, true, true, true, true, true, true, true, false, false, false, false, false] rfl rfl (by kernel_rfl) (fun _ _ _ h => h) (Or.inl ⟨by rfl, ?_⟩) ?_ ?_
                      rotate_left
                      · intro w'
                        go_simp
                        with_reducible rfl
                      rotate_left
                      · simp only [Act.put, List.setIfInBounds_toArray, List.set_cons_zero, List.set_cons_succ, i64_w, i32_w]
                        rfl
                      refine pure_ (i := 32) (N := some 151) (v := ?_) (a' := ?_) #[true, true, true, true, true, true, true, true, true, true, true, true, true, true, true, true, true, true, true, true, true, true, true, true, true, true, true, true, true, true, true, true, true, false, false, false, false] rfl rfl (by kernel_rfl) (fun _ _ _ h => h) (Or.inl ⟨by rfl, ?_⟩) ?_ ?_
                      rotate_left
                      · intro w'
                        go_simp
                        with_reducible rfl
                      rotate_left
                      · simp only [Act.put, List.setIfInBounds_toArray, List.set_cons_zero, List.set_cons_succ, i64_w, i32_w]
                        rfl
                      refine last_ (i := 33) (N := none) #[true, true, true, true, true, true, true, true, true, true, true, true, true, true, true, true, true, true, true, true, true, true, true, true, true, true, true, true, true, true, true, true, true, true, false, false, false] rfl rfl (by kernel_rfl) (by decide) (fun K hK => ?_)
                      obtain ⟨A140, n140, c140, rfl⟩ : ∃ A n c, v140 = .slice A n c := by obtain ⟨A, c, e⟩ := Kd.R_slice qR.out.W; exact ⟨A, _, c, e⟩
                      have y1 : (w147.setCell ⟨w.heap.size, 0, none⟩ (.slice A131 n131 c131)).cell? ⟨w.heap.size, 1, none⟩ = some (.slice AW fs.length cW) := (blk_cell qX.out 1).trans rfl
                      have g1 : (w147.setCell ⟨w.heap.size, 0, none⟩ (.slice A131 n131 c131)).frozen? ⟨w.heap.size, 1, none⟩ = false := blk_frozen qX.out 1
                      refine skip_ (w1 := ?_) (by rfl) rfl ?_ ?_
                      rotate_left
                      · go_simp
                        rfl
                      replace qX : Aside0 (((w147.setCell ⟨w.heap.size, 0, none⟩ (.slice A131 n131 c131)).setCell ⟨w.heap.size, 1, none⟩ (.slice A140 n140 c140)).heap[w.heap.size]? = some (.cells #[(.slice A131 n131 c131), (.slice A140 n140 c140), (.slice AT fs.length cT)] 120 (0, 0))) := ⟨blk_put qX.out 1 (.slice A140 n140 c140) rfl⟩
                      replace qR := Aside0.mk (qR.out.store 1 (.slice A140 n140 c140))
                      replace qW : Aside0 (Below w.heap.size w ((w147.setCell ⟨w.heap.size, 0, none⟩ (.slice A131 n131 c131)).setCell ⟨w.heap.size, 1, none⟩ (.slice A140 n140 c140))) := ⟨qW.out.setCell (Nat.le_refl _) _⟩
                      refine hK.out _ _ ?_
                      clear hK K
                      refine pure_ (i := 34) (N := some 152) (v := ?_) (a' := ?_) #[true, true, true, true, true, true, true, true, true, true, true, true, true, true, true, true, true, true, true, true, true, true, true, true, true, true, true, true, true, true, true, true, true, true, true, false, false] rfl rfl (by kernel_rfl) (fun _ _ _ h => h) (Or.inl ⟨by rfl, ?_⟩) ?_ ?_
                      rotate_left
                      · intro w'
                        go_simp
                        with_reducible rfl
                      rotate_left
                      · simp only [Act.put, List.setIfInBounds_toArray, List.set_cons_zero, List.set_cons_succ, i64_w, i32_w]
                        rfl
                      refine pure_ (i := 35) (N := some 153) (v := ?_) (a' := ?_) #[true, true, true, true, true, true, true, true, true, true, true, true, true, true, true, true, true, true, true, true, true, true, true, true, true, true, true, true, true, true, true, true, true, true, true, true, false] rfl rfl (by kernel_rfl) (fun _ _ _ h => h) (Or.inl ⟨by rfl, ?_⟩) ?_ ?_
                      rotate_left
                      · intro w'
                        go_simp
                        with_reducible rfl
                      rotate_left
                      · simp only [Act.put, List.setIfInBounds_toArray, List.set_cons_zero, List.set_cons_succ, i64_w, i32_w]
                        rfl
                      refine last_ (i := 36) (N := none) #[true, true, true, true, true, true, true, true, true, true, true, true, true, true, true, true, true, true, true, true, true, true, true, true, true, true, true, true, true, true, true, true, true, true, true, true, true] rfl rfl (by kernel_rfl) (by decide) (fun K hK => ?_)
                      obtain ⟨A147, n147, c147, rfl⟩ : ∃ A n c, v147 = .slice A n c := by obtain ⟨A, c, e⟩ := Kd.N_slice qR.out.T; exact ⟨A, _, c, e⟩
                      have y2 : ((w147.setCell ⟨w.heap.size, 0, none⟩ (.slice A131 n131 c131)).setCell ⟨w.heap.size, 1, none⟩ (.slice A140 n140 c140)).cell? ⟨w.heap.size, 2, none⟩ = some (.slice AT fs.length cT) := (blk_cell qX.out 2).trans rfl
                      have g2 : ((w147.setCell ⟨w.heap.size, 0, none⟩ (.slice A131 n131 c131)).setCell ⟨w.heap.size, 1, none⟩ (.slice A140 n140 c140)).frozen? ⟨w.heap.size, 2, none⟩ = false := blk_frozen qX.out 2
                      refine skip_ (w1 := ?_) (by rfl) rfl ?_ ?_
                      rotate_left
                      · go_simp
                        rfl
                      replace qX : Aside0 ((((w147.setCell ⟨w.heap.size, 0, none⟩ (.slice A131 n131 c131)).setCell ⟨w.heap.size, 1, none⟩ (.slice A140 n140 c140)).setCell ⟨w.heap.size, 2, none⟩ (.slice A147 n147 c147)).heap[w.heap.size]? = some (.cells #[(.slice A131 n131 c131), (.slice A140 n140 c140), (.slice A147 n147 c147)] 120 (0, 0))) := ⟨blk_put qX.out 2 (.slice A147 n147 c147) rfl⟩
                      replace qR := Aside0.mk (qR.out.store 2 (.slice A147 n147 c147))
                      replace qW : Aside0 (Below w.heap.size w (((w147.setCell ⟨w.heap.size, 0, none⟩ (.slice A131 n131 c131)).setCell ⟨w.heap.size, 1, none⟩ (.slice A140 n140 c140)).setCell ⟨w.heap.size, 2, none⟩ (.slice A147 n147 c147))) := ⟨qW.out.setCell (Nat.le_refl _) _⟩
                      refine hK.out _ _ ?_
                      clear hK K
                      refine done_ (by kernel_rfl) ?_
                      go_wp2_with fail
                      exact ⟨⟨j + 1, ((a, b), ts.map blankP) :: fs, .slice A131 n131 c131, .slice A140 n140 c140, .slice A147 n147 c147, by omega, by go_num, HE4, ⟨by rw [lsOf_cons, wsOf_cons, tsOf_cons, HTl.out]; exact qR.out⟩, qX, ⟨by have := HF4.out.1; simp only [List.length_cons]; omega, fun f hf => by
                        rcases List.mem_cons.1 hf with rfl | hf
                        · refine ⟨by rw [List.length_map]; exact HL4.out, fun t ht => ?_⟩
                          obtain ⟨s, hs, rfl⟩ := List.mem_map.1 ht
                          unfold blankP
                          rw [List.length_map]
                          exact HWs.out.2 s (by simp [hs])
                        · exact HF4.out.2 f hf⟩, qW⟩, by simp [intOf]; omega⟩
end Go.Proofs.YthefdpioaapomaaDoor.Pj
