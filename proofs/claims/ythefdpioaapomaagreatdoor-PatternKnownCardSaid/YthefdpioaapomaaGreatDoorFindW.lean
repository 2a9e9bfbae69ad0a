/- (*pattern.Words).Find, walked by hand: four loops, one in the other. -/
import Derived.Test.YthefdpioaapomaaGreatDoorChainW
import Derived.Test.YthefdpioaapomaaGreatDoorPA2
namespace Go.Proofs.YthefdpioaapomaaGreatDoor.Ext
set_option linter.unusedVariables false
set_option linter.unusedSimpArgs false
open Go.RowKit Go.Proofs.YthefdpioaapomaaGreatDoorW.PrintWords Go.Proofs.YthefdpioaapomaaGreatDoorW.PrintLast Go.Proofs.YthefdpioaapomaaGreatDoorW.PrintMore Go.Maps Go.WideMaps Go.Proofs.YthefdpioaapomaaGreatDoor.PA

def find4 (ks : List (K6 × ByteArray)) (kd la wd nm ca : ByteArray) : List ByteArray → Option ByteArray
  | [] => none
  | ct :: r => match getK ks ⟨kd, la, wd, nm, ct, ca⟩ with
    | some x => some x
    | none => find4 ks kd la wd nm ca r
def find3 (ks : List (K6 × ByteArray)) (kd la wd nm : ByteArray) (cts : List ByteArray) : List ByteArray → Option ByteArray
  | [] => none
  | ca :: r => match find4 ks kd la wd nm ca cts with
    | some x => some x
    | none => find3 ks kd la wd nm cts r
def find2 (ks : List (K6 × ByteArray)) (kd la nm : ByteArray) (cts cas : List ByteArray) : List ByteArray → Option ByteArray
  | [] => none
  | wd :: r => match find3 ks kd la wd nm cts cas with
    | some x => some x
    | none => find2 ks kd la nm cts cas r
def find1 (ks : List (K6 × ByteArray)) (kd nm : ByteArray) (cts cas wds : List ByteArray) : List ByteArray → Option ByteArray
  | [] => none
  | la :: r => match find2 ks kd la nm cts cas wds with
    | some x => some x
    | none => find1 ks kd nm cts cas wds r
/-- What is found. -/
def foundW (x : Option ByteArray) : ByteArray × Bool := (x.getD ⟨#[]⟩, x.isSome)
theorem litK (w : World) (xs : List ByteArray) (hm : xs.length ≤ 9223372036854775807) : Kd.C Kd.string (w.alloc (.cells (xs.map Value.string).toArray 9)) (some ⟨w.heap.size, 0, none⟩) xs.length xs :=
  (Kd.R_reads' (newStrs w 0 (Nat.zero_le _) xs hm)).2.2
set_option maxHeartbeats 8000000 in
set_option maxRecDepth 100000 in
theorem findW_any (B M Q n : Nat) (ks : List (K6 × ByteArray)) (ps : List (ByteArray × ByteArray)) (kd la0 wd0 nm ct0 ca0 : ByteArray) (full wds cts : List ByteArray) (w : World) (hG : Glob w) (hL : WordsAt w B M Q n ks ps) (hk : SmallK ⟨kd, la0, wd0, nm, ct0, ca0⟩) (hE : Ends ps full la0) (hf : full.length ≤ 100000) (hp : ∀ e ∈ ps, e.2.size ≤ maxLen) (hfs : ∀ a ∈ full, a.size ≤ maxLen)
    (hwd : pattern_Widths.f wd0 = some wds) (hwds : ∀ a ∈ wds, a.size ≤ maxLen) (hct : pattern_cats.f kd la0 wd0 nm ct0 ca0 = some cts) (hcts : ∀ a ∈ cts, a.size ≤ maxLen) :
    Calls Tryz.prog 18 #[.pointer (some ⟨B, 0, none⟩), .agg #[.string kd, .string la0, .string wd0, .string nm, .string ct0, .string ca0]] w fun e w' => e = .returned (.tuple #[.string (foundW (find1 ks kd nm cts [ca0, ⟨#[]⟩] wds full)).1, .bool (foundW (find1 ks kd nm cts [ca0, ⟨#[]⟩] wds full)).2]) ∧ Below w.heap.size w w' := by
  obtain ⟨r, hr⟩ : ∃ r, r = find1 ks kd nm cts [ca0, ⟨#[]⟩] wds full := ⟨_, rfl⟩
  rw [← hr]
  obtain ⟨o, ho⟩ : ∃ o, o = foundW r := ⟨_, rfl⟩
  rw [← ho]
  obtain ⟨o1, o2⟩ := o
  have HRes := Aside0.mk hr
  have HOut := Aside0.mk ho
  have HG := Aside0.mk hG
  have HL := Aside0.mk hL
  have HK := Aside0.mk hk
  have HE := Aside0.mk hE
  have HP := Aside0.mk hp
  have HFs := Aside0.mk hfs
  have HWd := Aside0.mk hwd
  have HWs := Aside0.mk hwds
  have HCt := Aside0.mk hct
  have HCs := Aside0.mk hcts
  clear hr ho hG hL hk hE hp hfs hwd hwds hct hcts
  dsimp only
  go_enter Tryz.func18, Tryz.ntmps18
  go_wp2_with fail
  refine (chain_any B M Q n ks ps la0 full _ (HL.out.below (below_alloc (Below.refl _ _) _)) HK.out.2.1 HE.out hf HP.out).mono ?_
  rintro e w2 ⟨v2, rfl, hR2, hb2⟩
  obtain ⟨A2, c2, rfl, hc2, hC2⟩ := Kd.R_reads hR2
  have hm2 : full.length ≤ 9223372036854775807 := hC2.2.1
  have HC2 := Aside0.mk hC2
  have HB2 : Aside0 (Below w.heap.size w w2) := ⟨below_step (below_alloc (Below.refl _ _) _) hb2⟩
  have HX2 := Aside0.mk (blk_below (blk_new w (.cells #[.string kd, .string la0, .string wd0, .string nm, .string ct0, .string ca0] 32)) hb2)
  have HL2 := Aside0.mk (HL.out.below HB2.out)
  have HG2 := Aside0.mk (HG.out.below HB2.out)
  clear hR2 hC2 hb2 hc2
  go_wp2_with fail
  go_loopw [21] (fun i wr => ∃ (j : Nat), j ≤ full.length ∧ i = .int .i64 j ∧ Aside0 (find1 ks kd nm cts [ca0, ⟨#[]⟩] wds (full.drop j) = r) ∧ Aside0 (Below w2.heap.size w2 wr)) (fun i _ => full.length - (intOf i).toNat)
  case atStart => exact ⟨0, Nat.zero_le _, rfl, ⟨HRes.out.symm⟩, ⟨Below.refl _ _⟩⟩
  case round =>
    obtain ⟨j, hj, rfl, HS, HBr⟩ := hrel
    by_cases hlt : j < full.length
    case neg =>
      obtain rfl : full.length = j := by omega
      have hS := HS.out
      rw [List.drop_length, find1] at hS
      have HS2 := Aside0.mk hS
      clear hS
      go_wp2_with fail
      go_ret2
      have h := HOut.out
      rw [← HS2.out] at h
      obtain ⟨rfl, rfl⟩ := Prod.mk.inj h
      exact ⟨rfl, below_step HB2.out HBr.out⟩
    obtain ⟨b2, o2', rfl, hcs⟩ := C_strsD HC2.out (by omega)
    have hx := pw_cell_below HBr.out (hcs j hlt)
    rw [List.getD_eq_getElem?_getD, List.getElem?_eq_getElem hlt, Option.getD_some] at hx
    have hS := HS.out
    rw [List.drop_eq_getElem_cons hlt, find1] at hS
    have hsm := HFs.out _ (List.getElem_mem hlt)
    generalize full[j] = la at hx hS hsm
    have HS2 := Aside0.mk hS
    have HSm := Aside0.mk hsm
    have hw0 := blk_cell (blk_below HX2.out HBr.out) 2
    have hw0 := hw0.trans (rfl : _ = some (Value.string wd0))
    clear hcs hS hsm HS
    go_wp2_with fail
    refine (pattern_Widths.calls wd0 wds _ HWd.out (HG2.out.below HBr.out)).mono ?_
    rintro e w3 ⟨v3, rfl, hR3, hb3⟩
    obtain ⟨A3, c3, rfl, hc3, hC3⟩ := Kd.R_reads hR3
    have hm3 : wds.length ≤ 9223372036854775807 := hC3.2.1
    have HC3 := Aside0.mk hC3
    have HB3 := Aside0.mk (below_step HBr.out hb3)
    clear hR3 hC3 hb3 hc3 hx hw0
    go_wp2_with fail
    go_loopw [29] (fun i wr => ∃ (j : Nat), j ≤ wds.length ∧ i = .int .i64 j ∧ Aside0 (find2 ks kd la nm cts [ca0, ⟨#[]⟩] (wds.drop j) = find2 ks kd la nm cts [ca0, ⟨#[]⟩] wds) ∧ Aside0 (Below w3.heap.size w3 wr)) (fun i _ => wds.length - (intOf i).toNat)
    case atStart => exact ⟨0, Nat.zero_le _, rfl, ⟨rfl⟩, ⟨Below.refl _ _⟩⟩
    case round =>
      obtain ⟨p, hp, rfl, HS, HBp⟩ := hrel
      by_cases hlp : p < wds.length
      case neg =>
        obtain rfl : wds.length = p := by omega
        have hS := HS.out
        rw [List.drop_length, find2] at hS
        have hS3 := HS2.out
        rw [← hS] at hS3
        have HS3 := Aside0.mk hS3
        clear hS hS3
        go_wp2_with fail
        go_roundw
        case rel => exact ⟨j + 1, by omega, by go_num, HS3, ⟨below_step HB3.out HBp.out⟩⟩
        case measure => simp [intOf]; omega
      obtain ⟨b3, o3, rfl, hcs⟩ := C_strsD HC3.out (by omega)
      have hx := pw_cell_below HBp.out (hcs p hlp)
      rw [List.getD_eq_getElem?_getD, List.getElem?_eq_getElem hlp, Option.getD_some] at hx
      have hS := HS.out
      rw [List.drop_eq_getElem_cons hlp, find2] at hS
      have hsm := HWs.out _ (List.getElem_mem hlp)
      generalize wds[p] = wd at hx hS hsm
      have HS3 := Aside0.mk hS
      have HSw := Aside0.mk hsm
      have HBw := Aside0.mk (below_step HB3.out HBp.out)
      have hw0 := (blk_cell (blk_below HX2.out HBw.out) 5).trans (rfl : _ = some (Value.string ca0))
      clear hcs hS hsm HS
      go_wp2_with fail
      have HC4 : Aside0 (Kd.C Kd.string (wr.alloc (.cells #[.string ca0, .string ⟨#[]⟩] 9)) (some ⟨wr.heap.size, 0, none⟩) 2 [ca0, ⟨#[]⟩]) := ⟨litK wr [ca0, ⟨#[]⟩] (by simp)⟩
      obtain ⟨w4, hw4⟩ : ∃ x, x = wr.alloc (.cells #[.string ca0, .string ⟨#[]⟩] 9) := ⟨_, rfl⟩
      rw [← hw4] at HC4 ⊢
      have hb4 : Below wr.heap.size wr w4 := by rw [hw4]; exact below_alloc (Below.refl _ _) _
      have HB4 := Aside0.mk (below_step HBw.out hb4)
      have HBp4 := Aside0.mk (below_step HBp.out hb4)
      clear hw4 hb4 hx hw0
      obtain ⟨cas, hcas⟩ : ∃ x, x = [ca0, (⟨#[]⟩ : ByteArray)] := ⟨_, rfl⟩
      rw [← hcas] at HS3 HC4
      have hl4 : cas.length = 2 := by rw [hcas]; rfl
      have HCas : Aside0 (∀ x ∈ cas, x.size ≤ maxLen) := ⟨by rw [hcas]; intro x hx; rcases List.mem_cons.1 hx with rfl | hx; exact HK.out.2.2.2.2.2; rcases List.mem_cons.1 hx with rfl | hx; exact Nat.zero_le _; cases hx⟩
      have HCa := Aside0.mk hcas
      have HL4 := Aside0.mk hl4
      clear hcas hl4
      go_loopw [37] (fun i wr => ∃ (j : Nat), j ≤ 2 ∧ i = .int .i64 j ∧ Aside0 (find3 ks kd la wd nm cts (cas.drop j) = find3 ks kd la wd nm cts cas) ∧ Aside0 (Below w4.heap.size w4 wr)) (fun i _ => 2 - (intOf i).toNat)
      case atStart => exact ⟨0, Nat.zero_le _, rfl, ⟨rfl⟩, ⟨Below.refl _ _⟩⟩
      case round =>
        obtain ⟨q, hq, rfl, HS, HBq⟩ := hrel
        by_cases hlq : q < 2
        case neg =>
          obtain rfl : 2 = q := by omega
          have hS := HS.out
          rw [List.drop_of_length_le (by rw [HL4.out]; exact Nat.le_refl _), find3] at hS
          have hS4 := HS3.out
          rw [HCa.out] at hS
          rw [HCa.out, ← hS] at hS4
          have HS5 := Aside0.mk hS4
          clear hS hS4
          go_wp2_with fail
          exact ⟨⟨p + 1, by omega, by go_num, HS5, ⟨below_step HBp4.out HBq.out⟩⟩, by simp [intOf]; omega⟩
        have hlq2 : q < cas.length := by rw [HL4.out]; exact hlq
        obtain ⟨b4, o4, hA4, hcs⟩ := C_strsD HC4.out (by omega)
        injection hA4 with hA4
        injection hA4 with hA4 hA5
        subst hA4
        subst hA5
        have hx := pw_cell_below HBq.out (hcs q hlq2)
        rw [List.getD_eq_getElem?_getD, List.getElem?_eq_getElem hlq2, Option.getD_some] at hx
        have hS := HS.out
        rw [List.drop_eq_getElem_cons hlq2, find3] at hS
        have hsm := HCas.out _ (List.getElem_mem hlq2)
        generalize cas[q] = ca at hx hS hsm
        rw [Nat.zero_add] at hx
        have HS4 := Aside0.mk hS
        have HSa := Aside0.mk hsm
        have HBx := Aside0.mk (below_step HB4.out HBq.out)
        have hz := blk_below HX2.out HBx.out
        have hz0 := (blk_cell hz 0).trans (rfl : _ = some (Value.string kd))
        have hz1 := (blk_cell hz 1).trans (rfl : _ = some (Value.string la0))
        have hz2 := (blk_cell hz 2).trans (rfl : _ = some (Value.string wd0))
        have hz3 := (blk_cell hz 3).trans (rfl : _ = some (Value.string nm))
        have hz4 := (blk_cell hz 4).trans (rfl : _ = some (Value.string ct0))
        have hz5 := (blk_cell hz 5).trans (rfl : _ = some (Value.string ca0))
        clear hcs hS hsm HS hz
        go_wp2_with fail
        refine (pattern_cats.calls kd la0 wd0 nm ct0 ca0 cts _ HCt.out (HG2.out.below HBx.out)).mono ?_
        rintro e w5 ⟨v5, rfl, hR5, hb5⟩
        obtain ⟨A5, c5, rfl, hc5, hC5⟩ := Kd.R_reads hR5
        have hm5 : cts.length ≤ 9223372036854775807 := hC5.2.1
        have HC5 := Aside0.mk hC5
        have HB5 := Aside0.mk (below_step HBx.out hb5)
        have HBq5 := Aside0.mk (below_step HBq.out hb5)
        clear hR5 hC5 hb5 hc5 hx hz0 hz1 hz2 hz3 hz4 hz5
        go_wp2_with fail
        go_loopw [44] (fun i wr => ∃ (j : Nat), j ≤ cts.length ∧ i = .int .i64 j ∧ Aside0 (find4 ks kd la wd nm ca (cts.drop j) = find4 ks kd la wd nm ca cts) ∧ Aside0 (Below w5.heap.size w5 wr)) (fun i _ => cts.length - (intOf i).toNat)
        case atStart => exact ⟨0, Nat.zero_le _, rfl, ⟨rfl⟩, ⟨Below.refl _ _⟩⟩
        case round =>
          obtain ⟨t, ht, rfl, HS, HBt⟩ := hrel
          by_cases hlt5 : t < cts.length
          case neg =>
            obtain rfl : cts.length = t := by omega
            have hS := HS.out
            rw [List.drop_length, find4] at hS
            have hS5 := HS4.out
            rw [← hS] at hS5
            have HS6 := Aside0.mk hS5
            clear hS hS5
            go_wp2_with fail
            exact ⟨⟨q + 1, by omega, by go_num, HS6, ⟨below_step HBq5.out HBt.out⟩⟩, by simp [intOf]; omega⟩
          obtain ⟨b5, o5, rfl, hcs⟩ := C_strsD HC5.out (by omega)
          have hx := pw_cell_below HBt.out (hcs t hlt5)
          rw [List.getD_eq_getElem?_getD, List.getElem?_eq_getElem hlt5, Option.getD_some] at hx
          have hS := HS.out
          rw [List.drop_eq_getElem_cons hlt5, find4] at hS
          have hsm := HCs.out _ (List.getElem_mem hlt5)
          generalize cts[t] = ct at hx hS hsm
          have HS6 := Aside0.mk hS
          have HSc := Aside0.mk hsm
          have HBy := Aside0.mk (below_step HB5.out HBt.out)
          have hz := blk_below HX2.out HBy.out
          have hz0 := (blk_cell hz 0).trans (rfl : _ = some (Value.string kd))
          have hz3 := (blk_cell hz 3).trans (rfl : _ = some (Value.string nm))
          have hmm := pw_cell_below HBy.out (blk_cell HL2.out.blk 0)
          obtain ⟨g, hg⟩ : ∃ g, getK ks ⟨kd, la, wd, nm, ct, ca⟩ = g := ⟨_, rfl⟩
          have hrun : ∀ m, (Instr.lookup 48 (.map (some M)) (.agg #[.string kd, .string la, .string wd, .string nm, .string ct, .string ca]) true).run Tryz.prog (wr.drewN m) = .ok (.tuple #[.string (g.getD ⟨#[]⟩), .bool g.isSome]) (wr.drewN m) := by
            intro m
            rw [← hg]
            exact HL2.out.exact (k := ⟨kd, la, wd, nm, ct, ca⟩) ⟨HK.out.1, HSm.out, HSw.out, HK.out.2.2.2.1, HSc.out, HSa.out⟩ (pw_below_drewN HBy.out m)
          have HGk := Aside0.mk hg
          clear hcs hS hsm HS hz hg
          cases g with
          | none =>
            dsimp only [Option.getD_none, Option.isSome_none] at hrun
            have hS7 := HS6.out
            rw [HGk.out] at hS7
            have HS7 := Aside0.mk hS7
            clear hS7
            go_wp2_with fail
            go_quiet (fail)
            go_wp2_with fail
            exact ⟨⟨t + 1, by omega, by go_num, HS7, ⟨pw_below_drewN HBt.out _⟩⟩, by simp [intOf]; omega⟩
          | some x =>
            dsimp only [Option.getD_some, Option.isSome_some] at hrun
            have hS7 := HS6.out
            rw [HGk.out] at hS7
            have HS7 := Aside0.mk hS7
            clear hS7
            go_wp2_with fail
            go_quiet (fail)
            go_wp2_with fail
            go_ret2
            have h7 : some x = find4 ks kd la wd nm ca cts := HS7.out
            have h4 := HS4.out
            rw [← h7] at h4
            have h4' : some x = find3 ks kd la wd nm cts cas := h4
            have h3 := HS3.out
            rw [← h4'] at h3
            have h3' : some x = find2 ks kd la nm cts cas wds := h3
            rw [HCa.out] at h3'
            have h2 := HS2.out
            rw [← h3'] at h2
            have h2' : some x = r := h2
            have h := HOut.out
            rw [← h2'] at h
            obtain ⟨rfl, rfl⟩ := Prod.mk.inj h
            exact ⟨rfl, below_step HB2.out (pw_below_drewN HBy.out _)⟩
end Go.Proofs.YthefdpioaapomaaGreatDoor.Ext
