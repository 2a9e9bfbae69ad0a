/- pattern.Load, walked by hand: all rows are read into the words, or one is refused. -/
import Derived.Test.YthefdpioaapomaaGreatDoorAboveW
import Derived.Test.YthefdpioaapomaaGreatDoorGoodW
namespace Go.Proofs.YthefdpioaapomaaGreatDoor.Ext
set_option linter.unusedVariables false
set_option linter.unusedSimpArgs false
open Go.RowKit Go.Proofs.YthefdpioaapomaaGreatDoorW.PrintWords Go.Proofs.YthefdpioaapomaaGreatDoorW.PrintLast Go.Proofs.YthefdpioaapomaaGreatDoorW.PrintMore Go.Maps Go.WideMaps Go.Proofs.YthefdpioaapomaaGreatDoor.PA

abbrev bParent : ByteArray := ⟨#[112, 97, 114, 101, 110, 116]⟩
abbrev StW := List (K6 × ByteArray) × PsW
/-- What a row makes of the words so far; a number that is not 0: refused. -/
noncomputable def stepW (x : StW) : List ByteArray → Int × StW
  | [] => (0, x)
  | k :: l => if kindN k ≠ 0 then ((textW x.1 (k :: l)).1, ((textW x.1 (k :: l)).2, x.2))
    else if k = bParent then ((aboveW x.2 (chainW x.2 (l.getD 1 eS)) l).1, (x.1, (aboveW x.2 (chainW x.2 (l.getD 1 eS)) l).2))
    else (0, x)
noncomputable def loadW : List S41 → StW → Int × Int × StW
  | [], x => (0, 0, x)
  | r :: rs, x => if (stepW x r.f1).1 = 0 then loadW rs (stepW x r.f1).2 else (r.f0, (stepW x r.f1).1, x)
/-- Load's answer. -/
def LoadedAt (w : World) (e : Ending) (x : Int × Int × StW) : Prop :=
  (x.2.1 = 0 ∧ ∃ B M Q n, e = .returned (.tuple #[.pointer (some ⟨B, 0, none⟩), .int .i64 0, .int .i64 0]) ∧ WordsAt w B M Q n x.2.2.1 x.2.2.2) ∨ (x.2.1 ≠ 0 ∧ e = .returned (.tuple #[.pointer none, .int .i64 x.1, .int .i64 x.2.1]))
/-- Parents that chains may go over. -/
structure PsOk (ps : PsW) (j : Nat) : Prop where
  len : ps.length ≤ j
  val : ∀ e ∈ ps, e.2.size ≤ maxLen ∧ e.2 ≠ eS
  fin : AllEnd ps
theorem langK_nonempty {s : ByteArray} (h : langK s = true) : s ≠ eS := by
  rintro rfl
  unfold langK pattern_lang.f at h
  rw [if_neg (by rw [Lib.toList_data]; intro e; cases e), if_neg (by show ¬ ((0 : Int) ≥ 2); decide)] at h
  cases h
theorem PsOk.step {x : StW} {j : Nat} (h : PsOk x.2 j) {l : List ByteArray} (hl : ∀ s ∈ l, s.size ≤ maxLen) : PsOk (stepW x l).2.2 (j + 1) := by
  have keep : PsOk x.2 (j + 1) := ⟨Nat.le_succ_of_le h.len, h.val, h.fin⟩
  match l, hl with
  | [], _ => exact keep
  | k :: l, hl =>
    rw [stepW]
    split
    · exact keep
    · split
      · dsimp only
        match l, hl with
        | [], _ => exact keep
        | [_], _ => exact keep
        | _ :: _ :: _ :: _, _ => exact keep
        | [a, b], hl =>
          have hb : ([a, b] : List ByteArray).getD 1 eS = b := rfl
          rw [hb, aboveW]
          split
          · rename_i hlg
            split
            · exact keep
            · rename_i hn
              split
              · exact keep
              · rename_i hc
                have hg : getS x.2 a = none := by
                  cases hg : getS x.2 a with
                  | none => rfl
                  | some p => rw [hg] at hn; exact absurd rfl hn
                refine ⟨by rw [List.length_cons]; have := h.len; omega, fun e he => ?_, h.fin.put hg (chainW_ends h.fin b) (fun hm => hc ((Lib.containsS_iff _ _).2 hm))⟩
                rcases List.mem_cons.1 he with rfl | he
                · exact ⟨hl b (by simp), langK_nonempty hlg.2⟩
                · exact h.val e he
          · exact keep
      · exact keep
set_option maxHeartbeats 8000000 in
set_option maxRecDepth 100000 in
theorem loadW_any (rs : List S41) (A : Option Addr) (c : Nat) (w : World) (hG : Glob w) (hC : Kd.C k41 w A rs.length rs) (hc : rs.length ≤ c) (hn : rs.length ≤ 90000) (hok : ∀ r ∈ rs, ∀ s ∈ r.f1, TextOk s ∧ (someK s).size ≤ 100000) :
    Calls Tryz.prog 17 #[.slice A rs.length c] w fun e w' => LoadedAt w' e (loadW rs ([], [])) ∧ Below w.heap.size w w' := by
  obtain ⟨r, hr⟩ : ∃ r, r = loadW rs ([], []) := ⟨_, rfl⟩
  rw [← hr]
  have hm : rs.length ≤ 9223372036854775807 := hC.2.1
  have HR := Aside0.mk hr
  have HG := Aside0.mk hG
  have HC := Aside0.mk hC
  have HK := Aside0.mk hok
  clear hr hG hC hok
  have hmm := @run_makeMap Tryz.prog
  go_enter Tryz.func17, Tryz.ntmps17
  go_wp2_with fail
  go_loopw [15] (fun i wr => ∃ (j : Nat) (x : StW), j ≤ rs.length ∧ i = .int .i64 j ∧ Aside0 (loadW (rs.drop j) x = r) ∧ Aside0 (PsOk x.2 j) ∧ Aside0 (WordsAt wr (w.heap.size + 2) w.heap.size (w.heap.size + 1) j x.1 x.2) ∧ Aside0 (Below w.heap.size w wr)) (fun i _ => rs.length - (intOf i).toNat)
  case atStart => exact ⟨0, ([], []), Nat.zero_le _, rfl, ⟨HR.out.symm⟩, ⟨⟨Nat.le_refl _, (fun e he => by cases he), AllEnd.nil⟩⟩, ⟨WordsAt.made w⟩, ⟨below_alloc (below_alloc (below_alloc (Below.refl _ _) _) _) _⟩⟩
  case round =>
    obtain ⟨j, x, hj, rfl, HE, HP, HL, HB⟩ := hrel
    clear hmm
    by_cases hlt : j < rs.length
    case neg =>
      obtain rfl : rs.length = j := by omega
      have hE := HE.out
      rw [List.drop_length, loadW] at hE
      have HE2 := Aside0.mk hE
      clear hE
      go_wp2_with fail
      go_ret3
      exact ⟨by rw [← HE2.out]; exact .inl ⟨rfl, _, _, _, _, rfl, HL.out⟩, HB.out⟩
    have hE := HE.out
    rw [List.drop_eq_getElem_cons hlt, loadW] at hE
    have hrd : rd_T41 rs (j : Int) = rs[j] := by simp [rd_T41, hlt]
    obtain ⟨ad, A1, c1, hA, hx0, hx1, hc1, hCr⟩ := at_T41 HC.out (j : Int) (by omega) (by omega)
    rw [hrd] at hx0 hx1 hc1 hCr
    rw [Int.toNat_natCast] at hx0 hx1
    have hws := HK.out _ (List.getElem_mem hlt)
    generalize rs[j] = row at hE hx0 hx1 hc1 hCr hws
    obtain ⟨f0, f1⟩ := row
    dsimp only at hE hx0 hx1 hc1 hCr hws
    subst hA
    have hy0 := pw_cell_below HB.out hx0
    have hy1 := pw_cell_below HB.out hx1
    have HC1 := Aside0.mk (Kd.C_below hCr HB.out)
    have HW := Aside0.mk hws
    have HSt : Aside0 (PsOk (stepW x f1).2.2 (j + 1)) := ⟨HP.out.step (fun s hs => by have := (hws s hs).1.size; unfold maxLen; omega)⟩
    have HE2 := Aside0.mk hE
    clear hE hrd hx0 hx1 hCr hws
    obtain ⟨nl, hnl⟩ : ∃ m, m = f1.length := ⟨_, rfl⟩
    rw [← hnl] at hy1 hc1
    have HN := Aside0.mk hnl
    clear hnl
    cases f1 with
    | nil =>
      have h0 : nl = 0 := HN.out
      subst h0
      have hE := HE2.out
      rw [stepW, if_pos rfl] at hE
      have HE3 := Aside0.mk hE
      clear hE
      go_wp2_with fail
      exact ⟨⟨j + 1, x, by omega, by go_num, HE3, HSt, ⟨(HL.out.below (below_alloc (Below.refl _ _) _)).mono (Nat.le_succ _)⟩, ⟨below_alloc HB.out _⟩⟩, by simp [intOf]; omega⟩
    | cons k l =>
      obtain ⟨b1, o1, hA1, hcs⟩ := C_strsD HC1.out (by simp)
      subst hA1
      have hk0c := pw_cell_below (below_alloc (Below.refl wr.heap.size wr) (.cells #[.int .i64 f0, .slice (some ⟨b1, o1, none⟩) nl c1] 41)) (show wr.cell? ⟨b1, o1, none⟩ = some (.string k) from hcs 0 (by simp))
      have hnl0 : 0 < nl := by rw [HN.out]; simp
      have i0 : ((nl : Int) == 0) = false := by simp; omega
      clear hcs
      by_cases hcase : k = bWord ∨ k = bPower ∨ k = bPrefixed ∨ k = bPer ∨ k = bTimes
      · rcases hcase with hk | hk | hk | hk | hk
        · have hkn : kindN k ≠ 0 := by rw [hk]; decide
          have t0 : (k.toList == ([119, 111, 114, 100] : List UInt8)) = true := by rw [str_iff, hk]; decide
          have Hk := Aside0.mk hk
          clear hk
          go_wp2_with fail
          have h := text_any (w.heap.size + 2) w.heap.size (w.heap.size + 1) j x.1 x.2 (some ⟨b1, o1, none⟩) c1 k l _ ((HG.out.below HB.out).alloc (.cells #[.int .i64 f0, .slice (some ⟨b1, o1, none⟩) nl c1] 41)) (HL.out.below (below_alloc (Below.refl _ _) _)) (Kd.C_alloc HC1.out _) (by rw [← HN.out]; exact hc1) HW.out hkn (by unfold maxLen; omega)
          rw [← HN.out] at h
          refine h.mono ?_
          rintro e w2 ⟨rfl, hL2, hg2⟩
          have HB2 : Aside0 (Below w.heap.size w w2) := ⟨(below_alloc HB.out _).grown hg2 (by have := below_size HB.out; simp; omega) (fun q hq => by cases hq; omega)⟩
          have HX2 := Aside0.mk (blk_cell (blk_grown (blk_new wr _) hg2 (fun e => by have h1 := HL.out.keys.lt; have h2 := HL.out.pars.lt; injection e with e; omega)) 0)
          have HL2 := Aside0.mk hL2
          clear hL2 hg2
          obtain ⟨y, hy⟩ : ∃ y, stepW x (k :: l) = y := ⟨_, rfl⟩
          have hE := HE2.out
          have hS := HSt.out
          rw [hy] at hE hS
          have HY := Aside0.mk hy
          have HS2 := Aside0.mk hS
          rw [stepW, if_pos hkn] at hy
          obtain ⟨er, x1, x2⟩ := y
          have hy1' := congrArg Prod.fst hy
          have hy2' := congrArg Prod.snd hy
          dsimp only at hy1' hy2' hE
          obtain ⟨hy3, hy4⟩ := Prod.mk.inj hy2'
          have HL3 : Aside0 (WordsAt w2 (w.heap.size + 2) w.heap.size (w.heap.size + 1) (j + 1) x1 x2) := ⟨by rw [← hy3, ← hy4]; exact HL2.out⟩
          rw [hy1']
          by_cases h0 : er = 0
          · subst h0
            rw [if_pos rfl] at hE
            have HE3 := Aside0.mk hE
            clear hE hy hy1' hy2' hy3 hy4 hS
            go_wp2_with fail
            exact ⟨⟨j + 1, (x1, x2), by omega, by go_num, HE3, HS2, HL3, HB2⟩, by simp [intOf]; omega⟩
          · rw [if_neg h0] at hE
            have HE3 := Aside0.mk hE
            have f1 : (er == 0) = false := beq_eq_false_iff_ne.2 h0
            have f2 : (er != 0) = true := bne_iff_ne.2 h0
            have f3 : decide (er = 0) = false := decide_eq_false h0
            have hx2 := HX2.out
            clear hE hy hy1' hy2' hy3 hy4 hS
            go_wp2_with fail
            go_quiet (fail)
            go_wp2_with fail
            go_ret3
            exact ⟨by rw [← HE3.out]; exact .inr ⟨h0, rfl⟩, pw_below_drewN HB2.out _⟩
        · have hkn : kindN k ≠ 0 := by rw [hk]; decide
          have t0 : (k.toList == ([119, 111, 114, 100] : List UInt8)) = false := by rw [str_iff, hk]; decide
          have t1 : (k.toList == ([112, 111, 119, 101, 114] : List UInt8)) = true := by rw [str_iff, hk]; decide
          have Hk := Aside0.mk hk
          clear hk
          go_wp2_with fail
          have h := text_any (w.heap.size + 2) w.heap.size (w.heap.size + 1) j x.1 x.2 (some ⟨b1, o1, none⟩) c1 k l _ ((HG.out.below HB.out).alloc (.cells #[.int .i64 f0, .slice (some ⟨b1, o1, none⟩) nl c1] 41)) (HL.out.below (below_alloc (Below.refl _ _) _)) (Kd.C_alloc HC1.out _) (by rw [← HN.out]; exact hc1) HW.out hkn (by unfold maxLen; omega)
          rw [← HN.out] at h
          refine h.mono ?_
          rintro e w2 ⟨rfl, hL2, hg2⟩
          have HB2 : Aside0 (Below w.heap.size w w2) := ⟨(below_alloc HB.out _).grown hg2 (by have := below_size HB.out; simp; omega) (fun q hq => by cases hq; omega)⟩
          have HX2 := Aside0.mk (blk_cell (blk_grown (blk_new wr _) hg2 (fun e => by have h1 := HL.out.keys.lt; have h2 := HL.out.pars.lt; injection e with e; omega)) 0)
          have HL2 := Aside0.mk hL2
          clear hL2 hg2
          obtain ⟨y, hy⟩ : ∃ y, stepW x (k :: l) = y := ⟨_, rfl⟩
          have hE := HE2.out
          have hS := HSt.out
          rw [hy] at hE hS
          have HY := Aside0.mk hy
          have HS2 := Aside0.mk hS
          rw [stepW, if_pos hkn] at hy
          obtain ⟨er, x1, x2⟩ := y
          have hy1' := congrArg Prod.fst hy
          have hy2' := congrArg Prod.snd hy
          dsimp only at hy1' hy2' hE
          obtain ⟨hy3, hy4⟩ := Prod.mk.inj hy2'
          have HL3 : Aside0 (WordsAt w2 (w.heap.size + 2) w.heap.size (w.heap.size + 1) (j + 1) x1 x2) := ⟨by rw [← hy3, ← hy4]; exact HL2.out⟩
          rw [hy1']
          by_cases h0 : er = 0
          · subst h0
            rw [if_pos rfl] at hE
            have HE3 := Aside0.mk hE
            clear hE hy hy1' hy2' hy3 hy4 hS
            go_wp2_with fail
            exact ⟨⟨j + 1, (x1, x2), by omega, by go_num, HE3, HS2, HL3, HB2⟩, by simp [intOf]; omega⟩
          · rw [if_neg h0] at hE
            have HE3 := Aside0.mk hE
            have f1 : (er == 0) = false := beq_eq_false_iff_ne.2 h0
            have f2 : (er != 0) = true := bne_iff_ne.2 h0
            have f3 : decide (er = 0) = false := decide_eq_false h0
            have hx2 := HX2.out
            clear hE hy hy1' hy2' hy3 hy4 hS
            go_wp2_with fail
            go_quiet (fail)
            go_wp2_with fail
            go_ret3
            exact ⟨by rw [← HE3.out]; exact .inr ⟨h0, rfl⟩, pw_below_drewN HB2.out _⟩
        · have hkn : kindN k ≠ 0 := by rw [hk]; decide
          have t0 : (k.toList == ([119, 111, 114, 100] : List UInt8)) = false := by rw [str_iff, hk]; decide
          have t1 : (k.toList == ([112, 111, 119, 101, 114] : List UInt8)) = false := by rw [str_iff, hk]; decide
          have t2 : (k.toList == ([112, 114, 101, 102, 105, 120, 101, 100] : List UInt8)) = true := by rw [str_iff, hk]; decide
          have Hk := Aside0.mk hk
          clear hk
          go_wp2_with fail
          have h := text_any (w.heap.size + 2) w.heap.size (w.heap.size + 1) j x.1 x.2 (some ⟨b1, o1, none⟩) c1 k l _ ((HG.out.below HB.out).alloc (.cells #[.int .i64 f0, .slice (some ⟨b1, o1, none⟩) nl c1] 41)) (HL.out.below (below_alloc (Below.refl _ _) _)) (Kd.C_alloc HC1.out _) (by rw [← HN.out]; exact hc1) HW.out hkn (by unfold maxLen; omega)
          rw [← HN.out] at h
          refine h.mono ?_
          rintro e w2 ⟨rfl, hL2, hg2⟩
          have HB2 : Aside0 (Below w.heap.size w w2) := ⟨(below_alloc HB.out _).grown hg2 (by have := below_size HB.out; simp; omega) (fun q hq => by cases hq; omega)⟩
          have HX2 := Aside0.mk (blk_cell (blk_grown (blk_new wr _) hg2 (fun e => by have h1 := HL.out.keys.lt; have h2 := HL.out.pars.lt; injection e with e; omega)) 0)
          have HL2 := Aside0.mk hL2
          clear hL2 hg2
          obtain ⟨y, hy⟩ : ∃ y, stepW x (k :: l) = y := ⟨_, rfl⟩
          have hE := HE2.out
          have hS := HSt.out
          rw [hy] at hE hS
          have HY := Aside0.mk hy
          have HS2 := Aside0.mk hS
          rw [stepW, if_pos hkn] at hy
          obtain ⟨er, x1, x2⟩ := y
          have hy1' := congrArg Prod.fst hy
          have hy2' := congrArg Prod.snd hy
          dsimp only at hy1' hy2' hE
          obtain ⟨hy3, hy4⟩ := Prod.mk.inj hy2'
          have HL3 : Aside0 (WordsAt w2 (w.heap.size + 2) w.heap.size (w.heap.size + 1) (j + 1) x1 x2) := ⟨by rw [← hy3, ← hy4]; exact HL2.out⟩
          rw [hy1']
          by_cases h0 : er = 0
          · subst h0
            rw [if_pos rfl] at hE
            have HE3 := Aside0.mk hE
            clear hE hy hy1' hy2' hy3 hy4 hS
            go_wp2_with fail
            exact ⟨⟨j + 1, (x1, x2), by omega, by go_num, HE3, HS2, HL3, HB2⟩, by simp [intOf]; omega⟩
          · rw [if_neg h0] at hE
            have HE3 := Aside0.mk hE
            have f1 : (er == 0) = false := beq_eq_false_iff_ne.2 h0
            have f2 : (er != 0) = true := bne_iff_ne.2 h0
            have f3 : decide (er = 0) = false := decide_eq_false h0
            have hx2 := HX2.out
            clear hE hy hy1' hy2' hy3 hy4 hS
            go_wp2_with fail
            go_quiet (fail)
            go_wp2_with fail
            go_ret3
            exact ⟨by rw [← HE3.out]; exact .inr ⟨h0, rfl⟩, pw_below_drewN HB2.out _⟩
        · have hkn : kindN k ≠ 0 := by rw [hk]; decide
          have t0 : (k.toList == ([119, 111, 114, 100] : List UInt8)) = false := by rw [str_iff, hk]; decide
          have t1 : (k.toList == ([112, 111, 119, 101, 114] : List UInt8)) = false := by rw [str_iff, hk]; decide
          have t2 : (k.toList == ([112, 114, 101, 102, 105, 120, 101, 100] : List UInt8)) = false := by rw [str_iff, hk]; decide
          have t3 : (k.toList == ([112, 101, 114] : List UInt8)) = true := by rw [str_iff, hk]; decide
          have Hk := Aside0.mk hk
          clear hk
          go_wp2_with fail
          have h := text_any (w.heap.size + 2) w.heap.size (w.heap.size + 1) j x.1 x.2 (some ⟨b1, o1, none⟩) c1 k l _ ((HG.out.below HB.out).alloc (.cells #[.int .i64 f0, .slice (some ⟨b1, o1, none⟩) nl c1] 41)) (HL.out.below (below_alloc (Below.refl _ _) _)) (Kd.C_alloc HC1.out _) (by rw [← HN.out]; exact hc1) HW.out hkn (by unfold maxLen; omega)
          rw [← HN.out] at h
          refine h.mono ?_
          rintro e w2 ⟨rfl, hL2, hg2⟩
          have HB2 : Aside0 (Below w.heap.size w w2) := ⟨(below_alloc HB.out _).grown hg2 (by have := below_size HB.out; simp; omega) (fun q hq => by cases hq; omega)⟩
          have HX2 := Aside0.mk (blk_cell (blk_grown (blk_new wr _) hg2 (fun e => by have h1 := HL.out.keys.lt; have h2 := HL.out.pars.lt; injection e with e; omega)) 0)
          have HL2 := Aside0.mk hL2
          clear hL2 hg2
          obtain ⟨y, hy⟩ : ∃ y, stepW x (k :: l) = y := ⟨_, rfl⟩
          have hE := HE2.out
          have hS := HSt.out
          rw [hy] at hE hS
          have HY := Aside0.mk hy
          have HS2 := Aside0.mk hS
          rw [stepW, if_pos hkn] at hy
          obtain ⟨er, x1, x2⟩ := y
          have hy1' := congrArg Prod.fst hy
          have hy2' := congrArg Prod.snd hy
          dsimp only at hy1' hy2' hE
          obtain ⟨hy3, hy4⟩ := Prod.mk.inj hy2'
          have HL3 : Aside0 (WordsAt w2 (w.heap.size + 2) w.heap.size (w.heap.size + 1) (j + 1) x1 x2) := ⟨by rw [← hy3, ← hy4]; exact HL2.out⟩
          rw [hy1']
          by_cases h0 : er = 0
          · subst h0
            rw [if_pos rfl] at hE
            have HE3 := Aside0.mk hE
            clear hE hy hy1' hy2' hy3 hy4 hS
            go_wp2_with fail
            exact ⟨⟨j + 1, (x1, x2), by omega, by go_num, HE3, HS2, HL3, HB2⟩, by simp [intOf]; omega⟩
          · rw [if_neg h0] at hE
            have HE3 := Aside0.mk hE
            have f1 : (er == 0) = false := beq_eq_false_iff_ne.2 h0
            have f2 : (er != 0) = true := bne_iff_ne.2 h0
            have f3 : decide (er = 0) = false := decide_eq_false h0
            have hx2 := HX2.out
            clear hE hy hy1' hy2' hy3 hy4 hS
            go_wp2_with fail
            go_quiet (fail)
            go_wp2_with fail
            go_ret3
            exact ⟨by rw [← HE3.out]; exact .inr ⟨h0, rfl⟩, pw_below_drewN HB2.out _⟩
        · have hkn : kindN k ≠ 0 := by rw [hk]; decide
          have t0 : (k.toList == ([119, 111, 114, 100] : List UInt8)) = false := by rw [str_iff, hk]; decide
          have t1 : (k.toList == ([112, 111, 119, 101, 114] : List UInt8)) = false := by rw [str_iff, hk]; decide
          have t2 : (k.toList == ([112, 114, 101, 102, 105, 120, 101, 100] : List UInt8)) = false := by rw [str_iff, hk]; decide
          have t3 : (k.toList == ([112, 101, 114] : List UInt8)) = false := by rw [str_iff, hk]; decide
          have t4 : (k.toList == ([116, 105, 109, 101, 115] : List UInt8)) = true := by rw [str_iff, hk]; decide
          have Hk := Aside0.mk hk
          clear hk
          go_wp2_with fail
          have h := text_any (w.heap.size + 2) w.heap.size (w.heap.size + 1) j x.1 x.2 (some ⟨b1, o1, none⟩) c1 k l _ ((HG.out.below HB.out).alloc (.cells #[.int .i64 f0, .slice (some ⟨b1, o1, none⟩) nl c1] 41)) (HL.out.below (below_alloc (Below.refl _ _) _)) (Kd.C_alloc HC1.out _) (by rw [← HN.out]; exact hc1) HW.out hkn (by unfold maxLen; omega)
          rw [← HN.out] at h
          refine h.mono ?_
          rintro e w2 ⟨rfl, hL2, hg2⟩
          have HB2 : Aside0 (Below w.heap.size w w2) := ⟨(below_alloc HB.out _).grown hg2 (by have := below_size HB.out; simp; omega) (fun q hq => by cases hq; omega)⟩
          have HX2 := Aside0.mk (blk_cell (blk_grown (blk_new wr _) hg2 (fun e => by have h1 := HL.out.keys.lt; have h2 := HL.out.pars.lt; injection e with e; omega)) 0)
          have HL2 := Aside0.mk hL2
          clear hL2 hg2
          obtain ⟨y, hy⟩ : ∃ y, stepW x (k :: l) = y := ⟨_, rfl⟩
          have hE := HE2.out
          have hS := HSt.out
          rw [hy] at hE hS
          have HY := Aside0.mk hy
          have HS2 := Aside0.mk hS
          rw [stepW, if_pos hkn] at hy
          obtain ⟨er, x1, x2⟩ := y
          have hy1' := congrArg Prod.fst hy
          have hy2' := congrArg Prod.snd hy
          dsimp only at hy1' hy2' hE
          obtain ⟨hy3, hy4⟩ := Prod.mk.inj hy2'
          have HL3 : Aside0 (WordsAt w2 (w.heap.size + 2) w.heap.size (w.heap.size + 1) (j + 1) x1 x2) := ⟨by rw [← hy3, ← hy4]; exact HL2.out⟩
          rw [hy1']
          by_cases h0 : er = 0
          · subst h0
            rw [if_pos rfl] at hE
            have HE3 := Aside0.mk hE
            clear hE hy hy1' hy2' hy3 hy4 hS
            go_wp2_with fail
            exact ⟨⟨j + 1, (x1, x2), by omega, by go_num, HE3, HS2, HL3, HB2⟩, by simp [intOf]; omega⟩
          · rw [if_neg h0] at hE
            have HE3 := Aside0.mk hE
            have f1 : (er == 0) = false := beq_eq_false_iff_ne.2 h0
            have f2 : (er != 0) = true := bne_iff_ne.2 h0
            have f3 : decide (er = 0) = false := decide_eq_false h0
            have hx2 := HX2.out
            clear hE hy hy1' hy2' hy3 hy4 hS
            go_wp2_with fail
            go_quiet (fail)
            go_wp2_with fail
            go_ret3
            exact ⟨by rw [← HE3.out]; exact .inr ⟨h0, rfl⟩, pw_below_drewN HB2.out _⟩
      · have hk0 : ¬ k = bWord := fun h => hcase (.inl h)
        have hk1 : ¬ k = bPower := fun h => hcase (.inr (.inl h))
        have hk2 : ¬ k = bPrefixed := fun h => hcase (.inr (.inr (.inl h)))
        have hk3 : ¬ k = bPer := fun h => hcase (.inr (.inr (.inr (.inl h))))
        have hk4 : ¬ k = bTimes := fun h => hcase (.inr (.inr (.inr (.inr h))))
        clear hcase
        have t0 : (k.toList == ([119, 111, 114, 100] : List UInt8)) = false := by rw [str_iff]; exact decide_eq_false hk0
        have t1 : (k.toList == ([112, 111, 119, 101, 114] : List UInt8)) = false := by rw [str_iff]; exact decide_eq_false hk1
        have t2 : (k.toList == ([112, 114, 101, 102, 105, 120, 101, 100] : List UInt8)) = false := by rw [str_iff]; exact decide_eq_false hk2
        have t3 : (k.toList == ([112, 101, 114] : List UInt8)) = false := by rw [str_iff]; exact decide_eq_false hk3
        have t4 : (k.toList == ([116, 105, 109, 101, 115] : List UInt8)) = false := by rw [str_iff]; exact decide_eq_false hk4
        have hkn : ¬ (kindN k ≠ 0) := by
          unfold kindN
          rw [if_neg hk0, if_neg hk1, if_neg hk2, if_neg (fun h => h.elim hk3 hk4)]
          exact fun h => h rfl
        by_cases hk5 : k = bParent
        · have t5 : (k.toList == ([112, 97, 114, 101, 110, 116] : List UInt8)) = true := by rw [str_iff]; exact decide_eq_true hk5
          have hCd := Kd.C_drop (m := 1) HC1.out (by simp) (by rw [← HN.out]; exact hc1)
          have hd : (k :: l).drop 1 = l := rfl
          rw [hd] at hCd
          have hl1 : l.length + 1 = nl := by rw [HN.out]; rfl
          have Hk5 := Aside0.mk hk5
          have Hkn := Aside0.mk hkn
          have hEnds := chainW_ends HP.out.fin (l.getD 1 eS)
          have HEn := Aside0.mk hEnds
          clear hk5 hkn hd hEnds hk0 hk1 hk2 hk3 hk4
          obtain ⟨nl, rfl⟩ : ∃ m, nl = m + 1 := ⟨l.length, by omega⟩
          have hnl : nl = l.length := by omega
          have HNl := Aside0.mk hnl
          clear hl1 hnl
          by_cases h1 : c1 = 1
          · subst h1
            obtain rfl : nl = 0 := by omega
            rw [if_pos rfl] at hCd
            have HCd := Aside0.mk hCd
            clear hCd
            go_wp2_with fail
            have h := above_any (w.heap.size + 2) w.heap.size (w.heap.size + 1) j x.1 x.2 (some ⟨b1, o1, none⟩) 0 l (chainW x.2 (l.getD 1 eS)) _ ((HG.out.below HB.out).alloc (.cells #[.int .i64 f0, .slice (some ⟨b1, o1, none⟩) (0 + 1) 1] 41)) (HL.out.below (below_alloc (Below.refl _ _) _)) (Kd.C_alloc HCd.out _) (by rw [← HNl.out]; exact Nat.le_refl _) (fun s hs => (HW.out s (List.mem_cons_of_mem _ hs)).1) HEn.out (by have := HEn.out.short; have := HP.out.len; omega) HP.out.val (by unfold maxLen; omega)
            rw [← HNl.out] at h
            refine h.mono ?_
            rintro e w2 ⟨rfl, hL2, hg2⟩
            have HB2 : Aside0 (Below w.heap.size w w2) := ⟨(below_alloc HB.out _).grown hg2 (by have := below_size HB.out; simp; omega) (fun q hq => by cases hq; omega)⟩
            have HX2 := Aside0.mk (blk_cell (blk_grown (blk_new wr _) hg2 (fun e => by have h1 := HL.out.keys.lt; have h2 := HL.out.pars.lt; injection e with e; omega)) 0)
            have HL2 := Aside0.mk hL2
            clear hL2 hg2
            obtain ⟨y, hy⟩ : ∃ y, stepW x (k :: l) = y := ⟨_, rfl⟩
            have hE := HE2.out
            have hS := HSt.out
            rw [hy] at hE hS
            have HY := Aside0.mk hy
            have HS2 := Aside0.mk hS
            rw [stepW, if_neg Hkn.out, if_pos Hk5.out] at hy
            obtain ⟨er, x1, x2⟩ := y
            have hy1' := congrArg Prod.fst hy
            have hy2' := congrArg Prod.snd hy
            dsimp only at hy1' hy2' hE
            obtain ⟨hy3, hy4⟩ := Prod.mk.inj hy2'
            have HL3 : Aside0 (WordsAt w2 (w.heap.size + 2) w.heap.size (w.heap.size + 1) (j + 1) x1 x2) := ⟨by rw [← hy3, ← hy4]; exact HL2.out⟩
            rw [hy1']
            by_cases h0 : er = 0
            · subst h0
              rw [if_pos rfl] at hE
              have HE3 := Aside0.mk hE
              clear hE hy hy1' hy2' hy3 hy4 hS
              go_wp2_with fail
              exact ⟨⟨j + 1, (x1, x2), by omega, by go_num, HE3, HS2, HL3, HB2⟩, by simp [intOf]; omega⟩
            · rw [if_neg h0] at hE
              have HE3 := Aside0.mk hE
              have f1 : (er == 0) = false := beq_eq_false_iff_ne.2 h0
              have f2 : (er != 0) = true := bne_iff_ne.2 h0
              have f3 : decide (er = 0) = false := decide_eq_false h0
              have hx2 := HX2.out
              clear hE hy hy1' hy2' hy3 hy4 hS
              go_wp2_with fail
              go_quiet (fail)
              go_wp2_with fail
              go_ret3
              exact ⟨by rw [← HE3.out]; exact .inr ⟨h0, rfl⟩, pw_below_drewN HB2.out _⟩
          · rw [if_neg h1] at hCd
            have HCd := Aside0.mk hCd
            clear hCd
            go_wp2_with fail
            have h := above_any (w.heap.size + 2) w.heap.size (w.heap.size + 1) j x.1 x.2 _ (c1 - 1) l (chainW x.2 (l.getD 1 eS)) _ ((HG.out.below HB.out).alloc (.cells #[.int .i64 f0, .slice (some ⟨b1, o1, none⟩) (nl + 1) c1] 41)) (HL.out.below (below_alloc (Below.refl _ _) _)) (Kd.C_alloc HCd.out _) (by rw [← HNl.out]; omega) (fun s hs => (HW.out s (List.mem_cons_of_mem _ hs)).1) HEn.out (by have := HEn.out.short; have := HP.out.len; omega) HP.out.val (by unfold maxLen; omega)
            rw [← HNl.out] at h
            refine h.mono ?_
            rintro e w2 ⟨rfl, hL2, hg2⟩
            have HB2 : Aside0 (Below w.heap.size w w2) := ⟨(below_alloc HB.out _).grown hg2 (by have := below_size HB.out; simp; omega) (fun q hq => by cases hq; omega)⟩
            have HX2 := Aside0.mk (blk_cell (blk_grown (blk_new wr _) hg2 (fun e => by have h1 := HL.out.keys.lt; have h2 := HL.out.pars.lt; injection e with e; omega)) 0)
            have HL2 := Aside0.mk hL2
            clear hL2 hg2
            obtain ⟨y, hy⟩ : ∃ y, stepW x (k :: l) = y := ⟨_, rfl⟩
            have hE := HE2.out
            have hS := HSt.out
            rw [hy] at hE hS
            have HY := Aside0.mk hy
            have HS2 := Aside0.mk hS
            rw [stepW, if_neg Hkn.out, if_pos Hk5.out] at hy
            obtain ⟨er, x1, x2⟩ := y
            have hy1' := congrArg Prod.fst hy
            have hy2' := congrArg Prod.snd hy
            dsimp only at hy1' hy2' hE
            obtain ⟨hy3, hy4⟩ := Prod.mk.inj hy2'
            have HL3 : Aside0 (WordsAt w2 (w.heap.size + 2) w.heap.size (w.heap.size + 1) (j + 1) x1 x2) := ⟨by rw [← hy3, ← hy4]; exact HL2.out⟩
            rw [hy1']
            by_cases h0 : er = 0
            · subst h0
              rw [if_pos rfl] at hE
              have HE3 := Aside0.mk hE
              clear hE hy hy1' hy2' hy3 hy4 hS
              go_wp2_with fail
              exact ⟨⟨j + 1, (x1, x2), by omega, by go_num, HE3, HS2, HL3, HB2⟩, by simp [intOf]; omega⟩
            · rw [if_neg h0] at hE
              have HE3 := Aside0.mk hE
              have f1 : (er == 0) = false := beq_eq_false_iff_ne.2 h0
              have f2 : (er != 0) = true := bne_iff_ne.2 h0
              have f3 : decide (er = 0) = false := decide_eq_false h0
              have hx2 := HX2.out
              clear hE hy hy1' hy2' hy3 hy4 hS
              go_wp2_with fail
              go_quiet (fail)
              go_wp2_with fail
              go_ret3
              exact ⟨by rw [← HE3.out]; exact .inr ⟨h0, rfl⟩, pw_below_drewN HB2.out _⟩
        · have t5 : (k.toList == ([112, 97, 114, 101, 110, 116] : List UInt8)) = false := by rw [str_iff]; exact decide_eq_false hk5
          have hE := HE2.out
          have hS := HSt.out
          rw [stepW, if_neg hkn, if_neg hk5] at hE hS
          rw [if_pos rfl] at hE
          have HE3 := Aside0.mk hE
          have HS2 := Aside0.mk hS
          clear hE hS hkn hk5 hk0 hk1 hk2 hk3 hk4
          go_wp2_with fail
          exact ⟨⟨j + 1, x, by omega, by go_num, HE3, HS2, ⟨(HL.out.below (below_alloc (Below.refl _ _) _)).mono (Nat.le_succ _)⟩, ⟨below_alloc HB.out _⟩⟩, by simp [intOf]; omega⟩
end Go.Proofs.YthefdpioaapomaaGreatDoor.Ext
