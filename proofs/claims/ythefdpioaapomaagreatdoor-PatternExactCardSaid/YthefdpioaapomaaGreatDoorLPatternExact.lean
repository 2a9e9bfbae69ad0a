/- The statement PatternExact, walked by hand: it answers true. -/
import Derived.Test.YthefdpioaapomaaGreatDoorLPatternChain
import Derived.Test.YthefdpioaapomaaGreatDoorPe
import Derived.Test.YthefdpioaapomaaGreatDoorExactW
namespace Go.Proofs.YthefdpioaapomaaGreatDoor.Ext
set_option linter.unusedVariables false
set_option linter.unusedSimpArgs false
open Go.RowKit Go.Proofs.YthefdpioaapomaaGreatDoorW.PrintWords
theorem Ends.mem {ps : PsW} : ∀ {f : List ByteArray} {s : ByteArray}, Ends ps f s → ∀ a ∈ f, a = s ∨ a = rootB ∨ ∃ e ∈ ps, e.2 = a
  | [], _, h, _, _ => h.elim
  | [x], s, h, a, ha => .inl ((List.mem_singleton.1 ha).trans h.1)
  | x :: y :: c, s, h, a, ha => by
    rcases List.mem_cons.1 ha with rfl | ha
    · exact .inl h.1
    · rcases Ends.mem h.next a ha with rfl | h'
      · exact .inr h.from
      · exact .inr h'
end Go.Proofs.YthefdpioaapomaaGreatDoor.Ext
namespace Go.Proofs.YthefdpioaapomaaGreatDoor.Pz
set_option linter.unusedVariables false
set_option linter.unusedSimpArgs false
open Go.RowKit Go.Proofs.YthefdpioaapomaaGreatDoorW.PrintWords Go.Proofs.YthefdpioaapomaaGreatDoorW.PrintLast Go.Proofs.YthefdpioaapomaaGreatDoor.Ext Go.Proofs.YthefdpioaapomaaGreatDoorW.PrintMore Go.Proofs.YthefdpioaapomaaGreatDoor.PA Go.Proofs.YthefdpioaapomaaGreatDoor.Pl

theorem widthK_3 (s : ByteArray) (h : widthK s = true) : s.data.toList = wLong ∨ s.data.toList = wShort ∨ s.data.toList = wNarrow := by
  rw [← data_ofL s, widthK_ofL] at h
  unfold widthB at h
  simpa [or_assoc] using h
theorem wds_of (s : ByteArray) : ∃ wds, pattern_Widths.f s = some wds ∧ (∀ b ∈ wds, b.size ≤ maxLen) ∧ (widthK s = true → ∃ t, wds = s :: t) := by
  refine ⟨(widthsB s.data.toList).map ofL, ?_, ?_, fun h => ?_⟩
  · have := widths_f s.data.toList
    rwa [data_ofL] at this
  · intro b hb
    obtain ⟨x, hx, rfl⟩ := List.mem_map.1 hb
    rw [ofL_size]
    unfold widthsB at hx
    have key : ∀ y : Bs, y.length ≤ 10 → y.length ≤ maxLen := fun y hy => by unfold maxLen; omega
    split at hx
    · simp only [List.mem_cons, List.not_mem_nil, or_false] at hx
      rcases hx with rfl | rfl | rfl <;> exact key _ (by decide)
    · split at hx
      · simp only [List.mem_cons, List.not_mem_nil, or_false] at hx
        rcases hx with rfl | rfl <;> exact key _ (by decide)
      · simp only [List.mem_cons, List.not_mem_nil, or_false] at hx
        subst hx
        exact key _ (by decide)
  · have hs := data_ofL s
    rcases widthK_3 s h with h | h | h <;> rw [h] at hs ⊢ <;> subst hs <;> exact ⟨_, rfl⟩
theorem cts_of (kd la wd nm ct ca : ByteArray) (hct : ct.size ≤ maxLen) : ∃ cts, pattern_cats.f kd la wd nm ct ca = some cts ∧ (∀ b ∈ cts, b.size ≤ maxLen) ∧ ∃ t, cts = ct :: t := by
  refine ⟨(catsB kd.data.toList ct.data.toList).map ofL, ?_, ?_, ?_⟩
  · have := cats_f kd.data.toList la.data.toList wd.data.toList nm.data.toList ct.data.toList ca.data.toList
    simpa only [data_ofL] using this
  · have o : (ofL wOther).size ≤ maxLen := by rw [ofL_size]; unfold maxLen; decide
    have o2 : (ofL ([] : Bs)).size ≤ maxLen := by rw [ofL_size]; unfold maxLen; decide
    intro b hb
    unfold catsB at hb
    split at hb
    · simp only [List.map_cons, List.map_nil, List.mem_cons, List.not_mem_nil, or_false, data_ofL] at hb
      rcases hb with rfl | rfl
      · exact hct
      · exact o
    · split at hb
      · simp only [List.map_cons, List.map_nil, List.mem_cons, List.not_mem_nil, or_false, data_ofL] at hb
        rcases hb with rfl | rfl
        · exact hct
        · exact o2
      · simp only [List.map_cons, List.map_nil, List.mem_cons, List.not_mem_nil, or_false, data_ofL] at hb
        subst hb
        exact hct
  · unfold catsB
    split
    · exact ⟨_, by simp only [List.map_cons, data_ofL]; rfl⟩
    · split
      · exact ⟨_, by simp only [List.map_cons, data_ofL]; rfl⟩
      · exact ⟨_, by simp only [List.map_cons, data_ofL]; rfl⟩
/-- A row of that kind, whose text is this. -/
def HitR (kd s : ByteArray) (r : S41) : Prop := ∃ t, r.f1 = kd :: t ∧ s = blankK (r.f1.getD (r.f1.length - 1) eS)
theorem exact_tri {l : List S41} {ks : List (K6 × ByteArray)} {kd la wd nm ct ca : ByteArray} {f wds cts : List ByteArray} (hks : ∀ e ∈ ks, KeyFrom l e.1 e.2) (hf : ∃ r, f = la :: r) (hw : widthK wd = true → ∃ t, wds = wd :: t) (hc : ∃ t, cts = ct :: t) :
    (find1 ks kd nm cts [ca, ⟨#[]⟩] wds f = none ∧ getK ks ⟨kd, la, wd, nm, ct, ca⟩ = none) ∨ (∃ s, find1 ks kd nm cts [ca, ⟨#[]⟩] wds f = some s ∧ getK ks ⟨kd, la, wd, nm, ct, ca⟩ = some s ∧ la ≠ rootB ∧ widthK wd = true) ∨
    (∃ s, find1 ks kd nm cts [ca, ⟨#[]⟩] wds f = some s ∧ (getK ks ⟨kd, la, wd, nm, ct, ca⟩ = none ∨ la = rootB) ∧ ∃ r ∈ l, HitR kd s r) := by
  have hit : ∀ s, find1 ks kd nm cts [ca, ⟨#[]⟩] wds f = some s → ∃ r ∈ l, HitR kd s r := by
    intro s h
    obtain ⟨a, b, c, d, h⟩ := find1_hit h
    obtain ⟨r, hr, t, h1, h2, _⟩ := hks _ (getK_mem h)
    exact ⟨r, hr, t, h1, h2⟩
  have first : ∀ s, getK ks ⟨kd, la, wd, nm, ct, ca⟩ = some s → find1 ks kd nm cts [ca, ⟨#[]⟩] wds f = some s ∧ widthK wd = true := by
    intro s h
    obtain ⟨_, _, _, _, _, _, hwd⟩ := hks _ (getK_mem h)
    obtain ⟨t, rfl⟩ := hw hwd
    obtain ⟨t', rfl⟩ := hc
    obtain ⟨t'', rfl⟩ := hf
    exact ⟨find1_first h _ _ _ _, hwd⟩
  cases hg : getK ks ⟨kd, la, wd, nm, ct, ca⟩ with
  | none =>
    cases hfo : find1 ks kd nm cts [ca, ⟨#[]⟩] wds f with
    | none => exact .inl ⟨rfl, rfl⟩
    | some s => exact .inr (.inr ⟨s, rfl, .inl rfl, hit s hfo⟩)
  | some s =>
    obtain ⟨h1, h2⟩ := first s hg
    by_cases hr : la = rootB
    · exact .inr (.inr ⟨s, h1, .inr hr, hit s h1⟩)
    · exact .inr (.inl ⟨s, h1, rfl, hr, h2⟩)
set_option maxHeartbeats 4000000 in
set_option maxRecDepth 100000 in
theorem PatternExact_any (A : Option Addr) (c : Nat) (l : List S41) (kd la wd nm ct ca : ByteArray) (w : World) (hC : Kd.C k41 w A l.length l) (hc : l.length ≤ c) (hk : SmallK ⟨kd, la, wd, nm, ct, ca⟩) (hG : Glob w) :
    Calls Tryz.prog 4 #[.slice A l.length c, .agg #[.string kd, .string la, .string wd, .string nm, .string ct, .string ca]] w fun e w' => e = .returned (.bool true) ∧ Below w.heap.size w w' := by
  have HG := Aside0.mk hG
  have HC := Aside0.mk hC
  have HK := Aside0.mk hk
  clear hG hC hk
  obtain ⟨wds, hwd, hwds, hwh⟩ := wds_of wd
  obtain ⟨cts, hct, hcts, hch⟩ := cts_of kd la wd nm ct ca HK.out.2.2.2.2.1
  have HWd := Aside0.mk hwd
  have HWs := Aside0.mk hwds
  have HWh := Aside0.mk hwh
  have HCt := Aside0.mk hct
  have HCs := Aside0.mk hcts
  have HCh := Aside0.mk hch
  clear hwd hwds hwh hct hcts hch
  go_enter Tryz.func4, Tryz.ntmps4
  go_wp2_with fail
  refine (awake22_any _ (HG.out.alloc _)).mono ?_
  rintro e w1 ⟨rfl, hb⟩
  have HX := Aside0.mk (blk_below (blk_new w (.cells #[.string kd, .string la, .string wd, .string nm, .string ct, .string ca] 32)) hb)
  have HB : Aside0 (Below w.heap.size w w1) := ⟨below_step (below_alloc (Below.refl _ _) _) hb⟩
  clear hb
  go_wp2_with fail
  refine (heavy_any A c l w1 (Kd.C_below HC.out HB.out) hc (HG.out.below HB.out)).mono ?_
  rintro e w2 ⟨rfl, hb⟩
  replace HX := Aside0.mk (blk_below HX.out hb)
  replace HB := Aside0.mk (below_step HB.out hb)
  clear hb
  by_cases hv : heavyB l = true
  · rw [hv]
    clear hv
    go_wp2_with fail
    go_ret
    exact ⟨rfl, HB.out⟩
  have HV := Aside0.mk (heavyB_no (Bool.eq_false_iff.2 hv))
  rw [Bool.eq_false_iff.2 hv]
  clear hv
  go_wp2_with fail
  refine (loadW_any l A c w2 (HG.out.below HB.out) (Kd.C_below HC.out HB.out) hc (by have := HV.out.1; omega) (fun r hr t ht => textOkB t (by have := (HV.out.2 r hr).2 t ht; omega))).mono ?_
  rintro e w3 ⟨hL0, hb⟩
  replace HX := Aside0.mk (blk_below HX.out hb)
  replace HB := Aside0.mk (below_step HB.out hb)
  clear hb
  have HP := Aside0.mk (loadW_ps l ([], []) 0 ⟨Nat.le_refl _, (fun e he => by cases he), AllEnd.nil⟩ (fun r hr t ht => by have := (HV.out.2 r hr).2 t ht; unfold maxLen; omega))
  have HKs : Aside0 (∀ e ∈ (loadW l ([], [])).2.2.1, KeyFrom l e.1 e.2) := ⟨fun e he => by
    rcases loadW_from l ([], []) e he with h | h
    · cases h
    · exact h⟩
  generalize loadW l ([], []) = x at hL0 HP HKs
  obtain ⟨x0, x1, ks, ps⟩ := x
  rcases hL0 with ⟨h0, B, M, Q, n, rfl, hL⟩ | ⟨h0, rfl⟩
  case inr =>
    have h0' : x1 ≠ 0 := h0
    have f1 : (x1 == 0) = false := beq_eq_false_iff_ne.2 h0'
    have f2 : (x1 != 0) = true := bne_iff_ne.2 h0'
    clear h0 h0'
    go_wp2_with fail
    go_ret
    exact ⟨rfl, HB.out⟩
  have HL : Aside0 (WordsAt w3 B M Q n ks ps) := ⟨hL⟩
  have HE := Aside0.mk (chainW_ends HP.out.fin la)
  obtain ⟨f, hf⟩ : ∃ f, f = chainW ps la := ⟨_, rfl⟩
  rw [← hf] at HE
  clear hL h0 hf
  have hF := findW_any B M Q n ks ps kd la wd nm ct ca f wds cts w3 (HG.out.below HB.out) HL.out HK.out HE.out (by have := HE.out.short; have := HP.out.len; have := HV.out.1; omega) (fun e he => (HP.out.val e he).1)
    (fun a ha => by
      rcases HE.out.mem a ha with rfl | rfl | ⟨e, he, rfl⟩
      · exact HK.out.2.1
      · unfold maxLen; decide
      · exact (HP.out.val e he).1) HWd.out HWs.out HCt.out HCs.out
  have hx : ∀ (W : World), Below w3.heap.size w3 W → Calls Tryz.prog 10 #[.pointer (some ⟨B, 0, none⟩), .agg #[.string kd, .string la, .string wd, .string nm, .string ct, .string ca]] W fun e w' => e = .returned (.tuple #[.string (exactW ks ⟨kd, la, wd, nm, ct, ca⟩).1, .bool (exactW ks ⟨kd, la, wd, nm, ct, ca⟩).2]) ∧ Below W.heap.size W w' :=
    fun W hb => exact_any B M Q n ks ps ⟨kd, la, wd, nm, ct, ca⟩ W (HL.out.below hb) HK.out
  unfold exactW at hx
  unfold foundW at hF
  have htri := exact_tri (kd := kd) (nm := nm) (ca := ca) HKs.out HE.out.cons HWh.out HCh.out
  have c0 := (blk_cell HX.out 0).trans rfl
  have c1 := (blk_cell HX.out 1).trans rfl
  have c2 := (blk_cell HX.out 2).trans rfl
  have c3 := (blk_cell HX.out 3).trans rfl
  have c4 := (blk_cell HX.out 4).trans rfl
  have c5 := (blk_cell HX.out 5).trans rfl
  rcases htri with ⟨h1, h2⟩ | ⟨s, h1, h2, hne, hw3⟩ | ⟨s, h1, h2, hit⟩
  · rw [h1] at hF
    rw [h2] at hx
    have HF := Aside0.mk hF
    have HEx := Aside0.mk hx
    clear hF hx h1 h2
    go_wp2_with fail
    refine HF.out.mono ?_
    rintro e w4 ⟨rfl, hb⟩
    replace HX := Aside0.mk (blk_below HX.out hb)
    replace HB := Aside0.mk (below_step HB.out hb)
    have HB4 := Aside0.mk hb
    clear hb c0 c1 c2 c3 c4 c5
    have c0 := (blk_cell HX.out 0).trans rfl
    have c1 := (blk_cell HX.out 1).trans rfl
    have c2 := (blk_cell HX.out 2).trans rfl
    have c3 := (blk_cell HX.out 3).trans rfl
    have c4 := (blk_cell HX.out 4).trans rfl
    have c5 := (blk_cell HX.out 5).trans rfl
    dsimp only [Option.getD_none, Option.isSome_none]
    go_wp2_with fail
    refine (HEx.out _ HB4.out).mono ?_
    rintro e w5 ⟨rfl, hb⟩
    replace HB := Aside0.mk (below_step HB.out hb)
    clear hb c0 c1 c2 c3 c4 c5
    dsimp only [Option.getD_none, Option.isSome_none]
    have e0 : ((⟨#[]⟩ : ByteArray).toList == ([] : List UInt8)) = true := by rw [Lib.toList_data]; rfl
    go_wp2_with fail
    go_ret
    exact ⟨rfl, HB.out⟩
  · rw [h1] at hF
    rw [h2] at hx
    have HF := Aside0.mk hF
    have HEx := Aside0.mk hx
    have hla : (la.toList == ([114, 111, 111, 116] : List UInt8)) = false := by rw [str_iff]; exact decide_eq_false hne
    have hlb : (la.toList != ([114, 111, 111, 116] : List UInt8)) = true := by unfold bne; rw [hla]; rfl
    have hss : (s.toList == s.toList) = true := by simp
    have HLa := Aside0.mk hla
    have HLb := Aside0.mk hlb
    have HSs := Aside0.mk hss
    have HW3 := Aside0.mk (widthK_3 wd hw3)
    clear hF hx h1 h2 hla hlb hss hne hw3
    go_wp2_with fail
    refine HF.out.mono ?_
    rintro e w4 ⟨rfl, hb⟩
    replace HX := Aside0.mk (blk_below HX.out hb)
    replace HB := Aside0.mk (below_step HB.out hb)
    have HB4 := Aside0.mk hb
    clear hb c0 c1 c2 c3 c4 c5
    have c0 := (blk_cell HX.out 0).trans rfl
    have c1 := (blk_cell HX.out 1).trans rfl
    have c2 := (blk_cell HX.out 2).trans rfl
    have c3 := (blk_cell HX.out 3).trans rfl
    have c4 := (blk_cell HX.out 4).trans rfl
    have c5 := (blk_cell HX.out 5).trans rfl
    dsimp only [Option.getD_some, Option.isSome_some]
    go_wp2_with fail
    refine (HEx.out _ HB4.out).mono ?_
    rintro e w5 ⟨rfl, hb⟩
    replace HX := Aside0.mk (blk_below HX.out hb)
    replace HB := Aside0.mk (below_step HB.out hb)
    clear hb c0 c1 c2 c3 c4 c5
    have c1 := (blk_cell HX.out 1).trans rfl
    have c2 := (blk_cell HX.out 2).trans rfl
    dsimp only [Option.getD_some, Option.isSome_some]
    have hla := HLa.out
    have hlb := HLb.out
    have hss := HSs.out
    have hd := data_ofL wd
    rcases HW3.out with h | h | h
    · have t0 : (wd.toList == ([108, 111, 110, 103] : List UInt8)) = true := by rw [Lib.toList_data, h]; rfl
      clear h hd
      go_wp2_with fail
      go_ret
      exact ⟨rfl, HB.out⟩
    · have t0 : (wd.toList == ([108, 111, 110, 103] : List UInt8)) = false := by rw [Lib.toList_data, h]; rfl
      have t1 : (wd.toList == ([115, 104, 111, 114, 116] : List UInt8)) = true := by rw [Lib.toList_data, h]; rfl
      clear h hd
      go_wp2_with fail
      go_ret
      exact ⟨rfl, HB.out⟩
    · have t0 : (wd.toList == ([108, 111, 110, 103] : List UInt8)) = false := by rw [Lib.toList_data, h]; rfl
      have t1 : (wd.toList == ([115, 104, 111, 114, 116] : List UInt8)) = false := by rw [Lib.toList_data, h]; rfl
      have t2 : (wd.toList == ([110, 97, 114, 114, 111, 119] : List UInt8)) = true := by rw [Lib.toList_data, h]; rfl
      clear h hd
      go_wp2_with fail
      go_ret
      exact ⟨rfl, HB.out⟩
  · rw [h1] at hF
    obtain ⟨go, hgo⟩ : ∃ go, getK ks ⟨kd, la, wd, nm, ct, ca⟩ = go := ⟨_, rfl⟩
    rw [hgo] at hx h2
    obtain ⟨g1, hg1⟩ : ∃ g1, go.getD ⟨#[]⟩ = g1 := ⟨_, rfl⟩
    obtain ⟨g2, hg2⟩ : ∃ g2, go.isSome = g2 := ⟨_, rfl⟩
    rw [hg1, hg2] at hx
    have h3 : g2 = false ∨ la = rootB := by
      rcases h2 with h2 | h2
      · exact .inl (by rw [← hg2, h2]; rfl)
      · exact .inr h2
    have HF := Aside0.mk hF
    have HEx := Aside0.mk hx
    have H3 := Aside0.mk h3
    have HIt := Aside0.mk hit
    clear hF hx h1 h2 h3 hit hgo hg1 hg2
    go_wp2_with fail
    refine HF.out.mono ?_
    rintro e w4 ⟨rfl, hb⟩
    replace HX := Aside0.mk (blk_below HX.out hb)
    replace HB := Aside0.mk (below_step HB.out hb)
    have HB4 := Aside0.mk hb
    clear hb c0 c1 c2 c3 c4 c5
    have c0 := (blk_cell HX.out 0).trans rfl
    have c1 := (blk_cell HX.out 1).trans rfl
    have c2 := (blk_cell HX.out 2).trans rfl
    have c3 := (blk_cell HX.out 3).trans rfl
    have c4 := (blk_cell HX.out 4).trans rfl
    have c5 := (blk_cell HX.out 5).trans rfl
    dsimp only [Option.getD_some, Option.isSome_some]
    go_wp2_with fail
    refine (HEx.out _ HB4.out).mono ?_
    rintro e w5 ⟨rfl, hb⟩
    replace HX := Aside0.mk (blk_below HX.out hb)
    replace HB := Aside0.mk (below_step HB.out hb)
    clear hb c0 c1 c2 c3 c4 c5
    have c1 := (blk_cell HX.out 1).trans rfl
    have h3 : (g2 = false) ∨ (g2 = true ∧ (la.toList != ([114, 111, 111, 116] : List UInt8)) = false ∧ (la.toList == ([114, 111, 111, 116] : List UInt8)) = true) := by
      rcases H3.out with h | h
      · exact .inl h
      · cases g2 with
        | false => exact .inl rfl
        | true => exact .inr ⟨rfl, by rw [h, Lib.toList_data]; rfl, by rw [h, Lib.toList_data]; rfl⟩
    rcases h3 with rfl | ⟨rfl, hlb, hlc⟩
    all_goals
      go_wp2_with fail
      try clear hlb hlc
      clear c1
      go_loopw [13] (fun i wr => ∃ (j : Nat), j ≤ l.length ∧ i = .int .i64 j ∧ Aside0 (∃ r ∈ l.drop j, HitR kd s r) ∧ Aside0 (Below w5.heap.size w5 wr)) (fun i _ => l.length - (intOf i).toNat)
      case atStart => exact ⟨0, Nat.zero_le _, rfl, HIt, ⟨Below.refl _ _⟩⟩
      case round =>
        obtain ⟨j, hj, rfl, HH, HBr⟩ := hrel
        rename_i wr
        by_cases hlt : j < l.length
        case neg =>
          obtain ⟨r, hr, _⟩ := HH.out
          rw [List.drop_of_length_le (by omega)] at hr
          cases hr
        have hH := HH.out
        rw [List.drop_eq_getElem_cons hlt] at hH
        have hrd : rd_T41 l (j : Int) = l[j] := by simp [rd_T41, hlt]
        have HBw : Aside0 (Below w.heap.size w wr) := ⟨below_step HB.out HBr.out⟩
        obtain ⟨ad, A1, c1, hA, hx0, hx1, hc1, hCr⟩ := at_T41 (Kd.C_below HC.out HBw.out) (j : Int) (by omega) (by omega)
        rw [hrd] at hx1 hc1 hCr
        rw [Int.toNat_natCast] at hx1
        have hws := (HV.out.2 _ (List.getElem_mem hlt)).2
        have hl60 := HV.out.1
        have hl30 := (HV.out.2 _ (List.getElem_mem hlt)).1
        generalize l[j] = row at hH hx1 hc1 hCr hws hl30
        obtain ⟨f0, f1⟩ := row
        dsimp only at hx1 hc1 hCr hws hl30
        subst hA
        have hnext : ¬ HitR kd s ⟨f0, f1⟩ → ∃ r ∈ l.drop (j + 1), HitR kd s r := by
          intro hn
          obtain ⟨r, hr, h⟩ := hH
          rcases List.mem_cons.1 hr with rfl | hr
          · exact absurd h hn
          · exact ⟨r, hr, h⟩
        have HNx := Aside0.mk hnext
        have HWs := Aside0.mk hws
        clear hx0 hrd hH hnext hws
        have k0 := pw_cell_below HBr.out ((blk_cell HX.out 0).trans rfl)
        obtain ⟨nl, hnl⟩ : ∃ m, m = f1.length := ⟨_, rfl⟩
        rw [← hnl] at hx1 hc1 hl30
        have HN := Aside0.mk hnl
        have HCr := Aside0.mk hCr
        clear hnl hCr
        have b0 : (0 : Int) ≤ (j : Int) := by omega
        cases f1 with
        | nil =>
          obtain rfl : nl = 0 := HN.out
          have HNN : Aside0 (∃ r ∈ l.drop (j + 1), HitR kd s r) := ⟨HNx.out (by rintro ⟨t, h, _⟩; cases h)⟩
          go_wp2_with fail
          go_quiet (fail)
          go_wp2_with fail
          exact ⟨⟨j + 1, by omega, by go_num, HNN, ⟨pw_below_drewN HBr.out _⟩⟩, by simp [intOf]; omega⟩
        | cons h t =>
          obtain ⟨b1, o1, rfl, hcs⟩ := C_strsD HCr.out (by simp)
          have z0 : wr.cell? ⟨b1, o1, none⟩ = some (.string ((h :: t).getD 0 ByteArray.empty)) := hcs 0 (by simp)
          have z1 := hcs (nl - 1) (by have h := HN.out; rw [← h]; have : 0 < nl := by rw [h]; simp
                                      omega)
          rw [List.getD_cons_zero] at z0
          have hn0 : 0 < nl := by rw [HN.out]; simp
          by_cases hq : h = kd
          case neg =>
            have hq2 : (h.toList == kd.toList) = false := by
              rw [beq_eq_false_iff_ne]
              intro e
              exact hq (ByteArray.ext (Array.ext' (by rw [← Lib.toList_data, ← Lib.toList_data]; exact e)))
            have HNN : Aside0 (∃ r ∈ l.drop (j + 1), HitR kd s r) := ⟨HNx.out (by rintro ⟨t, e, _⟩; exact hq (List.cons.inj e).1)⟩
            clear hq hcs z1
            go_wp2_with fail
            go_quiet (fail)
            go_wp2_with fail
            exact ⟨⟨j + 1, by omega, by go_num, HNN, ⟨pw_below_drewN HBr.out _⟩⟩, by simp [intOf]; omega⟩
          case pos =>
            subst hq
            obtain ⟨z, hz⟩ : ∃ z, (h :: t).getD (nl - 1) ByteArray.empty = z := ⟨_, rfl⟩
            rw [hz] at z1
            have hzm : z ∈ h :: t := by
              have hl : nl - 1 < (h :: t).length := by rw [← HN.out]; omega
              rw [← hz, List.getD_eq_getElem?_getD, List.getElem?_eq_getElem hl]
              exact List.getElem_mem hl
            have HZ := Aside0.mk (textOkB z (by have := HWs.out z hzm; omega)).1
            obtain ⟨zb, hzb⟩ : ∃ x, blankK z = x := ⟨_, rfl⟩
            obtain ⟨bq, hbq⟩ : ∃ b, (zb.toList == s.toList) = b := ⟨_, rfl⟩
            have HNN : Aside0 (bq = false → ∃ r ∈ l.drop (j + 1), HitR h s r) := ⟨fun e => HNx.out (by
              rintro ⟨t', _, e2⟩
              dsimp only at e2
              rw [← HN.out] at e2
              have e3 : s = zb := by rw [e2, ← hzb, ← hz]; rfl
              rw [e3, e] at hbq
              simp at hbq)⟩
            have HZb := Aside0.mk hzb
            have HX1 := Aside0.mk hx1
            have HZ0 := Aside0.mk z0
            have HZ1 := Aside0.mk z1
            have HK0 := Aside0.mk k0
            have e1 : wrap64 ((nl : Int) - 1) = ((nl - 1 : Nat) : Int) := by unfold wrap64; omega
            have hn2 : nl - 1 < nl := by omega
            have hn3 : (0 : Int) ≤ ((nl - 1 : Nat) : Int) := by omega
            have hn4 : ((nl - 1 : Nat) : Int) < (nl : Int) := by omega
            have hn5 : (0 : Int) < (nl : Int) := by omega
            have hhh : (h.toList == h.toList) = true := by simp
            clear hcs hz hzb hzm hx1 z0 z1 k0
            go_wp2_with fail
            refine start_ (n := 38) (S := fun w' => w'.cell? ⟨(ad.add (j * 2)).block, (ad.add (j * 2)).off + 1, none⟩ = some (.slice (some ⟨b1, o1, none⟩) nl c1) ∧ w'.cell? ⟨b1, o1, none⟩ = some (.string h) ∧ w'.cell? ⟨w.heap.size, 0, none⟩ = some (.string h) ∧ w'.cell? ⟨b1, o1 + (nl - 1), none⟩ = some (.string z)) (ds := []) #[false, false, false, false, false, false, false, false, false, false, false, false, false, false, false, false, false, false, false, false, false, false, false, false, false, false, false, false, false, false, false, false, false, false, false, false, false, false] (by kernel_rfl) rfl rfl ⟨pw_cell_below (below_drew (Below.refl _ _)) HX1.out, pw_cell_below (below_drew (Below.refl _ _)) HZ0.out, pw_cell_below (below_drew (Below.refl _ _)) HK0.out, pw_cell_below (below_drew (Below.refl _ _)) HZ1.out⟩ (fun hHeld => ?_)
            refine pure_ (i := 0) (N := some 82) (v := ?_) (a' := ?_) #[true, false, false, false, false, false, false, false, false, false, false, false, false, false, false, false, false, false, false, false, false, false, false, false, false, false, false, false, false, false, false, false, false, false, false, false, false, false] rfl rfl (by kernel_rfl) (fun _ _ _ h => h) (Or.inl ⟨by rfl, ?_⟩) ?_ ?_
            rotate_left
            · intro w'
              go_simp
              with_reducible rfl
            rotate_left
            · simp only [Act.put, List.setIfInBounds_toArray, List.set_cons_zero, List.set_cons_succ, i64_w, i32_w]
              rfl
            refine pure_ (i := 1) (N := some 83) (v := ?_) (a' := ?_) #[true, true, false, false, false, false, false, false, false, false, false, false, false, false, false, false, false, false, false, false, false, false, false, false, false, false, false, false, false, false, false, false, false, false, false, false, false, false] rfl rfl (by kernel_rfl) (fun _ _ _ h => h) (Or.inl ⟨by rfl, ?_⟩) ?_ ?_
            rotate_left
            · intro w'
              go_simp
              with_reducible rfl
            rotate_left
            · simp only [Act.put, List.setIfInBounds_toArray, List.set_cons_zero, List.set_cons_succ, i64_w, i32_w]
              rfl
            refine pure_ (i := 2) (N := some 84) (v := ?_) (a' := ?_) #[true, true, true, false, false, false, false, false, false, false, false, false, false, false, false, false, false, false, false, false, false, false, false, false, false, false, false, false, false, false, false, false, false, false, false, false, false, false] rfl rfl (by kernel_rfl) (fun _ _ _ h => h) (Or.inl ⟨by rfl, ?_⟩) ?_ ?_
            rotate_left
            · intro w'
              go_simp
              with_reducible rfl
            rotate_left
            · simp only [Act.put, List.setIfInBounds_toArray, List.set_cons_zero, List.set_cons_succ, i64_w, i32_w]
              rfl
            refine pure_ (i := 3) (N := some 85) (v := ?_) (a' := ?_) #[true, true, true, true, false, false, false, false, false, false, false, false, false, false, false, false, false, false, false, false, false, false, false, false, false, false, false, false, false, false, false, false, false, false, false, false, false, false] rfl rfl (by kernel_rfl) (fun _ _ _ h => h) (Or.inl ⟨by rfl, ?_⟩) ?_ ?_
            rotate_left
            · intro w'
              go_simp
              with_reducible rfl
            rotate_left
            · simp only [Act.put, List.setIfInBounds_toArray, List.set_cons_zero, List.set_cons_succ, i64_w, i32_w]
              rfl
            refine take_ (i := 4) (N := some 86) (v := ?_) (a' := ?_) #[true, true, true, true, true, false, false, false, false, false, false, false, false, false, false, false, false, false, false, false, false, false, false, false, false, false, false, false, false, false, false, false, false, false, false, false, false, false] rfl rfl (by kernel_rfl) (fun _ _ _ h => h) (Or.inl ⟨by rfl, ?_⟩) hHeld ?_ ?_
            rotate_left
            · rintro w' ⟨s0, s1, s2, s3⟩
              go_simp
              with_reducible rfl
            rotate_left
            · simp only [Act.put, List.setIfInBounds_toArray, List.set_cons_zero, List.set_cons_succ, i64_w, i32_w]
              rfl
            refine pure_ (i := 5) (N := some 87) (v := ?_) (a' := ?_) #[true, true, true, true, true, true, false, false, false, false, false, false, false, false, false, false, false, false, false, false, false, false, false, false, false, false, false, false, false, false, false, false, false, false, false, false, false, false] rfl rfl (by kernel_rfl) (fun _ _ _ h => h) (Or.inl ⟨by rfl, ?_⟩) ?_ ?_
            rotate_left
            · intro w'
              go_simp
              with_reducible rfl
            rotate_left
            · simp only [Act.put, List.setIfInBounds_toArray, List.set_cons_zero, List.set_cons_succ, i64_w, i32_w]
              rfl
            refine pure_ (i := 6) (N := some 88) (v := ?_) (a' := ?_) #[true, true, true, true, true, true, true, false, false, false, false, false, false, false, false, false, false, false, false, false, false, false, false, false, false, false, false, false, false, false, false, false, false, false, false, false, false, false] rfl rfl (by kernel_rfl) (fun _ _ _ h => h) (Or.inl ⟨by rfl, ?_⟩) ?_ ?_
            rotate_left
            · intro w'
              go_simp
              with_reducible rfl
            rotate_left
            · simp only [Act.put, List.setIfInBounds_toArray, List.set_cons_zero, List.set_cons_succ, i64_w, i32_w]
              rfl
            refine pure_ (i := 7) (N := some 89) (v := ?_) (a' := ?_) #[true, true, true, true, true, true, true, true, false, false, false, false, false, false, false, false, false, false, false, false, false, false, false, false, false, false, false, false, false, false, false, false, false, false, false, false, false, false] rfl rfl (by kernel_rfl) (fun _ _ _ h => h) (Or.inl ⟨by rfl, ?_⟩) ?_ ?_
            rotate_left
            · intro w'
              go_simp
              with_reducible rfl
            rotate_left
            · simp only [Act.put, List.setIfInBounds_toArray, List.set_cons_zero, List.set_cons_succ, i64_w, i32_w]
              rfl
            refine pure_ (i := 8) (N := some 90) (v := ?_) (a' := ?_) #[true, true, true, true, true, true, true, true, true, false, false, false, false, false, false, false, false, false, false, false, false, false, false, false, false, false, false, false, false, false, false, false, false, false, false, false, false, false] rfl rfl (by kernel_rfl) (fun _ _ _ h => h) (Or.inl ⟨by rfl, ?_⟩) ?_ ?_
            rotate_left
            · intro w'
              go_simp
              with_reducible rfl
            rotate_left
            · simp only [Act.put, List.setIfInBounds_toArray, List.set_cons_zero, List.set_cons_succ, i64_w, i32_w]
              rfl
            refine pure_ (i := 9) (N := some 91) (v := ?_) (a' := ?_) #[true, true, true, true, true, true, true, true, true, true, false, false, false, false, false, false, false, false, false, false, false, false, false, false, false, false, false, false, false, false, false, false, false, false, false, false, false, false] rfl rfl (by kernel_rfl) (fun _ _ _ h => h) (Or.inl ⟨by rfl, ?_⟩) ?_ ?_
            rotate_left
            · intro w'
              go_simp
              with_reducible rfl
            rotate_left
            · simp only [Act.put, List.setIfInBounds_toArray, List.set_cons_zero, List.set_cons_succ, i64_w, i32_w]
              rfl
            refine pure_ (i := 10) (N := some 92) (v := ?_) (a' := ?_) #[true, true, true, true, true, true, true, true, true, true, true, false, false, false, false, false, false, false, false, false, false, false, false, false, false, false, false, false, false, false, false, false, false, false, false, false, false, false] rfl rfl (by kernel_rfl) (fun _ _ _ h => h) (Or.inl ⟨by rfl, ?_⟩) ?_ ?_
            rotate_left
            · intro w'
              go_simp
              with_reducible rfl
            rotate_left
            · simp only [Act.put, List.setIfInBounds_toArray, List.set_cons_zero, List.set_cons_succ, i64_w, i32_w]
              rfl
            refine pure_ (i := 11) (N := some 93) (v := ?_) (a' := ?_) #[true, true, true, true, true, true, true, true, true, true, true, true, false, false, false, false, false, false, false, false, false, false, false, false, false, false, false, false, false, false, false, false, false, false, false, false, false, false] rfl rfl (by kernel_rfl) (fun _ _ _ h => h) (Or.inl ⟨by rfl, ?_⟩) ?_ ?_
            rotate_left
            · intro w'
              go_simp
              with_reducible rfl
            rotate_left
            · simp only [Act.put, List.setIfInBounds_toArray, List.set_cons_zero, List.set_cons_succ, i64_w, i32_w]
              rfl
            refine pure_ (i := 15) (N := some 97) (v := ?_) (a' := ?_) #[true, true, true, true, true, true, true, true, true, true, true, true, false, false, false, true, false, false, false, false, false, false, false, false, false, false, false, false, false, false, false, false, false, false, false, false, false, false] rfl rfl (by kernel_rfl) (fun _ _ _ h => h) (Or.inl ⟨by rfl, ?_⟩) ?_ ?_
            rotate_left
            · intro w'
              go_simp
              with_reducible rfl
            rotate_left
            · simp only [Act.put, List.setIfInBounds_toArray, List.set_cons_zero, List.set_cons_succ, i64_w, i32_w]
              rfl
            refine take_ (i := 12) (N := some 94) (v := ?_) (a' := ?_) #[true, true, true, true, true, true, true, true, true, true, true, true, true, false, false, true, false, false, false, false, false, false, false, false, false, false, false, false, false, false, false, false, false, false, false, false, false, false] rfl rfl (by kernel_rfl) (fun _ _ _ h => h) (Or.inl ⟨by rfl, ?_⟩) hHeld ?_ ?_
            rotate_left
            · rintro w' ⟨s0, s1, s2, s3⟩
              go_simp
              with_reducible rfl
            rotate_left
            · simp only [Act.put, List.setIfInBounds_toArray, List.set_cons_zero, List.set_cons_succ, i64_w, i32_w]
              rfl
            refine pure_ (i := 13) (N := some 95) (v := ?_) (a' := ?_) #[true, true, true, true, true, true, true, true, true, true, true, true, true, true, false, true, false, false, false, false, false, false, false, false, false, false, false, false, false, false, false, false, false, false, false, false, false, false] rfl rfl (by kernel_rfl) (fun _ _ _ h => h) (Or.inl ⟨by rfl, ?_⟩) ?_ ?_
            rotate_left
            · intro w'
              go_simp
              with_reducible rfl
            rotate_left
            · simp only [Act.put, List.setIfInBounds_toArray, List.set_cons_zero, List.set_cons_succ, i64_w, i32_w]
              rfl
            refine take_ (i := 14) (N := some 96) (v := ?_) (a' := ?_) #[true, true, true, true, true, true, true, true, true, true, true, true, true, true, true, true, false, false, false, false, false, false, false, false, false, false, false, false, false, false, false, false, false, false, false, false, false, false] rfl rfl (by kernel_rfl) (fun _ _ _ h => h) (Or.inl ⟨by rfl, ?_⟩) hHeld ?_ ?_
            rotate_left
            · rintro w' ⟨s0, s1, s2, s3⟩
              go_simp
              with_reducible rfl
            rotate_left
            · simp only [Act.put, List.setIfInBounds_toArray, List.set_cons_zero, List.set_cons_succ, i64_w, i32_w]
              rfl
            refine take_ (i := 16) (N := some 98) (v := ?_) (a' := ?_) #[true, true, true, true, true, true, true, true, true, true, true, true, true, true, true, true, true, false, false, false, false, false, false, false, false, false, false, false, false, false, false, false, false, false, false, false, false, false] rfl rfl (by kernel_rfl) (fun _ _ _ h => h) (Or.inl ⟨by rfl, ?_⟩) hHeld ?_ ?_
            rotate_left
            · rintro w' ⟨s0, s1, s2, s3⟩
              go_simp
              with_reducible rfl
            rotate_left
            · simp only [Act.put, List.setIfInBounds_toArray, List.set_cons_zero, List.set_cons_succ, i64_w, i32_w]
              rfl
            refine pure_ (i := 17) (N := some 99) (v := ?_) (a' := ?_) #[true, true, true, true, true, true, true, true, true, true, true, true, true, true, true, true, true, true, false, false, false, false, false, false, false, false, false, false, false, false, false, false, false, false, false, false, false, false] rfl rfl (by kernel_rfl) (fun _ _ _ h => h) (Or.inl ⟨by rfl, ?_⟩) ?_ ?_
            rotate_left
            · intro w'
              go_simp
              with_reducible rfl
            rotate_left
            · simp only [Act.put, List.setIfInBounds_toArray, List.set_cons_zero, List.set_cons_succ, i64_w, i32_w]
              rfl
            refine pure_ (i := 18) (N := some 100) (v := ?_) (a' := ?_) #[true, true, true, true, true, true, true, true, true, true, true, true, true, true, true, true, true, true, true, false, false, false, false, false, false, false, false, false, false, false, false, false, false, false, false, false, false, false] rfl rfl (by kernel_rfl) (fun _ _ _ h => h) (Or.inl ⟨by rfl, ?_⟩) ?_ ?_
            rotate_left
            · intro w'
              go_simp
              with_reducible rfl
            rotate_left
            · simp only [Act.put, List.setIfInBounds_toArray, List.set_cons_zero, List.set_cons_succ, i64_w, i32_w]
              rfl
            refine pure_ (i := 19) (N := some 101) (v := ?_) (a' := ?_) #[true, true, true, true, true, true, true, true, true, true, true, true, true, true, true, true, true, true, true, true, false, false, false, false, false, false, false, false, false, false, false, false, false, false, false, false, false, false] rfl rfl (by kernel_rfl) (fun _ _ _ h => h) (Or.inl ⟨by rfl, ?_⟩) ?_ ?_
            rotate_left
            · intro w'
              go_simp
              with_reducible rfl
            rotate_left
            · simp only [Act.put, List.setIfInBounds_toArray, List.set_cons_zero, List.set_cons_succ, i64_w, i32_w]
              rfl
            refine pure_ (i := 20) (N := some 102) (v := ?_) (a' := ?_) #[true, true, true, true, true, true, true, true, true, true, true, true, true, true, true, true, true, true, true, true, true, false, false, false, false, false, false, false, false, false, false, false, false, false, false, false, false, false] rfl rfl (by kernel_rfl) (fun _ _ _ h => h) (Or.inl ⟨by rfl, ?_⟩) ?_ ?_
            rotate_left
            · intro w'
              go_simp
              with_reducible rfl
            rotate_left
            · simp only [Act.put, List.setIfInBounds_toArray, List.set_cons_zero, List.set_cons_succ, i64_w, i32_w]
              rfl
            refine pure_ (i := 21) (N := some 103) (v := ?_) (a' := ?_) #[true, true, true, true, true, true, true, true, true, true, true, true, true, true, true, true, true, true, true, true, true, true, false, false, false, false, false, false, false, false, false, false, false, false, false, false, false, false] rfl rfl (by kernel_rfl) (fun _ _ _ h => h) (Or.inl ⟨by rfl, ?_⟩) ?_ ?_
            rotate_left
            · intro w'
              go_simp
              with_reducible rfl
            rotate_left
            · simp only [Act.put, List.setIfInBounds_toArray, List.set_cons_zero, List.set_cons_succ, i64_w, i32_w]
              rfl
            refine pure_ (i := 22) (N := some 104) (v := ?_) (a' := ?_) #[true, true, true, true, true, true, true, true, true, true, true, true, true, true, true, true, true, true, true, true, true, true, true, false, false, false, false, false, false, false, false, false, false, false, false, false, false, false] rfl rfl (by kernel_rfl) (fun _ _ _ h => h) (Or.inl ⟨by rfl, ?_⟩) ?_ ?_
            rotate_left
            · intro w'
              go_simp
              with_reducible rfl
            rotate_left
            · simp only [Act.put, List.setIfInBounds_toArray, List.set_cons_zero, List.set_cons_succ, i64_w, i32_w]
              rfl
            refine pure_ (i := 23) (N := some 105) (v := ?_) (a' := ?_) #[true, true, true, true, true, true, true, true, true, true, true, true, true, true, true, true, true, true, true, true, true, true, true, true, false, false, false, false, false, false, false, false, false, false, false, false, false, false] rfl rfl (by kernel_rfl) (fun _ _ _ h => h) (Or.inl ⟨by rfl, ?_⟩) ?_ ?_
            rotate_left
            · intro w'
              go_simp
              with_reducible rfl
            rotate_left
            · simp only [Act.put, List.setIfInBounds_toArray, List.set_cons_zero, List.set_cons_succ, i64_w, i32_w]
              rfl
            refine pure_ (i := 25) (N := some 107) (v := ?_) (a' := ?_) #[true, true, true, true, true, true, true, true, true, true, true, true, true, true, true, true, true, true, true, true, true, true, true, true, false, true, false, false, false, false, false, false, false, false, false, false, false, false] rfl rfl (by kernel_rfl) (fun _ _ _ h => h) (Or.inl ⟨by rfl, ?_⟩) ?_ ?_
            rotate_left
            · intro w'
              go_simp
              with_reducible rfl
            rotate_left
            · simp only [Act.put, List.setIfInBounds_toArray, List.set_cons_zero, List.set_cons_succ, i64_w, i32_w]
              rfl
            refine pure_ (i := 26) (N := some 108) (v := ?_) (a' := ?_) #[true, true, true, true, true, true, true, true, true, true, true, true, true, true, true, true, true, true, true, true, true, true, true, true, false, true, true, false, false, false, false, false, false, false, false, false, false, false] rfl rfl (by kernel_rfl) (fun _ _ _ h => h) (Or.inl ⟨by rfl, ?_⟩) ?_ ?_
            rotate_left
            · intro w'
              go_simp
              with_reducible rfl
            rotate_left
            · simp only [Act.put, List.setIfInBounds_toArray, List.set_cons_zero, List.set_cons_succ, i64_w, i32_w]
              rfl
            refine pure_ (i := 27) (N := some 109) (v := ?_) (a' := ?_) #[true, true, true, true, true, true, true, true, true, true, true, true, true, true, true, true, true, true, true, true, true, true, true, true, false, true, true, true, false, false, false, false, false, false, false, false, false, false] rfl rfl (by kernel_rfl) (fun _ _ _ h => h) (Or.inl ⟨by rfl, ?_⟩) ?_ ?_
            rotate_left
            · intro w'
              go_simp
              with_reducible rfl
            rotate_left
            · simp only [Act.put, List.setIfInBounds_toArray, List.set_cons_zero, List.set_cons_succ, i64_w, i32_w]
              rfl
            refine pure_ (i := 28) (N := some 110) (v := ?_) (a' := ?_) #[true, true, true, true, true, true, true, true, true, true, true, true, true, true, true, true, true, true, true, true, true, true, true, true, false, true, true, true, true, false, false, false, false, false, false, false, false, false] rfl rfl (by kernel_rfl) (fun _ _ _ h => h) (Or.inl ⟨by rfl, ?_⟩) ?_ ?_
            rotate_left
            · intro w'
              go_simp
              with_reducible rfl
            rotate_left
            · simp only [Act.put, List.setIfInBounds_toArray, List.set_cons_zero, List.set_cons_succ, i64_w, i32_w]
              rfl
            refine pure_ (i := 35) (N := some 117) (v := ?_) (a' := ?_) #[true, true, true, true, true, true, true, true, true, true, true, true, true, true, true, true, true, true, true, true, true, true, true, true, false, true, true, true, true, false, false, false, false, false, false, true, false, false] rfl rfl (by kernel_rfl) (fun _ _ _ h => h) (Or.inl ⟨by rfl, ?_⟩) ?_ ?_
            rotate_left
            · intro w'
              go_simp
              with_reducible rfl
            rotate_left
            · simp only [Act.put, List.setIfInBounds_toArray, List.set_cons_zero, List.set_cons_succ, i64_w, i32_w]
              rfl
            refine take_ (i := 24) (N := some 106) (v := ?_) (a' := ?_) #[true, true, true, true, true, true, true, true, true, true, true, true, true, true, true, true, true, true, true, true, true, true, true, true, true, true, true, true, true, false, false, false, false, false, false, true, false, false] rfl rfl (by kernel_rfl) (fun _ _ _ h => h) (Or.inl ⟨by rfl, ?_⟩) hHeld ?_ ?_
            rotate_left
            · rintro w' ⟨s0, s1, s2, s3⟩
              go_simp
              with_reducible rfl
            rotate_left
            · simp only [Act.put, List.setIfInBounds_toArray, List.set_cons_zero, List.set_cons_succ, i64_w, i32_w]
              rfl
            refine take_ (i := 29) (N := some 111) (v := ?_) (a' := ?_) #[true, true, true, true, true, true, true, true, true, true, true, true, true, true, true, true, true, true, true, true, true, true, true, true, true, true, true, true, true, true, false, false, false, false, false, true, false, false] rfl rfl (by kernel_rfl) (fun _ _ _ h => h) (Or.inl ⟨by rfl, ?_⟩) hHeld ?_ ?_
            rotate_left
            · rintro w' ⟨s0, s1, s2, s3⟩
              go_simp
              with_reducible rfl
            rotate_left
            · simp only [Act.put, List.setIfInBounds_toArray, List.set_cons_zero, List.set_cons_succ, i64_w, i32_w]
              rfl
            refine pure_ (i := 30) (N := some 112) (v := ?_) (a' := ?_) #[true, true, true, true, true, true, true, true, true, true, true, true, true, true, true, true, true, true, true, true, true, true, true, true, true, true, true, true, true, true, true, false, false, false, false, true, false, false] rfl rfl (by kernel_rfl) (fun _ _ _ h => h) (Or.inl ⟨by rfl, ?_⟩) ?_ ?_
            rotate_left
            · intro w'
              go_simp
              with_reducible rfl
            rotate_left
            · simp only [Act.put, List.setIfInBounds_toArray, List.set_cons_zero, List.set_cons_succ, i64_w, i32_w]
              rfl
            refine pure_ (i := 31) (N := some 113) (v := ?_) (a' := ?_) #[true, true, true, true, true, true, true, true, true, true, true, true, true, true, true, true, true, true, true, true, true, true, true, true, true, true, true, true, true, true, true, true, false, false, false, true, false, false] rfl rfl (by kernel_rfl) (fun _ _ _ h => h) (Or.inl ⟨by rfl, ?_⟩) ?_ ?_
            rotate_left
            · intro w'
              go_simp
              with_reducible rfl
            rotate_left
            · simp only [Act.put, List.setIfInBounds_toArray, List.set_cons_zero, List.set_cons_succ, i64_w, i32_w]
              rfl
            refine pure_ (i := 32) (N := some 114) (v := ?_) (a' := ?_) #[true, true, true, true, true, true, true, true, true, true, true, true, true, true, true, true, true, true, true, true, true, true, true, true, true, true, true, true, true, true, true, true, true, false, false, true, false, false] rfl rfl (by kernel_rfl) (fun _ _ _ h => h) (Or.inl ⟨by rfl, ?_⟩) ?_ ?_
            rotate_left
            · intro w'
              go_simp
              with_reducible rfl
            rotate_left
            · simp only [Act.put, List.setIfInBounds_toArray, List.set_cons_zero, List.set_cons_succ, i64_w, i32_w]
              rfl
            refine take_ (i := 33) (N := some 115) (v := ?_) (a' := ?_) #[true, true, true, true, true, true, true, true, true, true, true, true, true, true, true, true, true, true, true, true, true, true, true, true, true, true, true, true, true, true, true, true, true, true, false, true, false, false] rfl rfl (by kernel_rfl) (fun _ _ _ h => h) (Or.inl ⟨by rfl, ?_⟩) hHeld ?_ ?_
            rotate_left
            · rintro w' ⟨s0, s1, s2, s3⟩
              go_simp
              with_reducible rfl
            rotate_left
            · simp only [Act.put, List.setIfInBounds_toArray, List.set_cons_zero, List.set_cons_succ, i64_w, i32_w]
              rfl
            refine one_ (i := 34) (N := some 116) #[true, true, true, true, true, true, true, true, true, true, true, true, true, true, true, true, true, true, true, true, true, true, true, true, true, true, true, true, true, true, true, true, true, true, true, true, false, false] rfl rfl (by kernel_rfl) (by decide) (fun K hK => ?_)
            refine goes_ Tryz.func19 (by kernel_rfl) rfl #[.string z] (by rfl) rfl rfl (by simp only [List.map_toArray, List.map_cons, List.map_nil]; rfl) ?_
            with_reducible refine (blankK_any z zb _ (HG.out.below (below_drew HBw.out)) HZ.out HZb.out).mono ?_
            rintro e w7 ⟨rfl, hb7⟩
            refine ⟨_, rfl, ?_⟩
            have HB5 := Aside0.mk (below_step (below_drew (Below.refl _ _)) hb7)
            have HB6 := Aside0.mk (below_step HBr.out HB5.out)
            have HB7 := Aside0.mk (below_step HBw.out HB5.out)
            clear hb7
            refine hK.out _ _ ⟨pw_cell_below HB5.out HX1.out, pw_cell_below HB5.out HZ0.out, pw_cell_below HB5.out HK0.out, pw_cell_below HB5.out HZ1.out⟩ (fun hHeld => ?_)
            clear hK K
            refine norm_ (a' := ?_) ?_ ?_
            rotate_left
            · show Act.put _ (some 116) _ = _
              simp only [Act.put, List.setIfInBounds_toArray, List.set_cons_zero, List.set_cons_succ, i64_w, i32_w]
              rfl
            refine pure_ (i := 36) (N := some 118) (v := ?_) (a' := ?_) #[true, true, true, true, true, true, true, true, true, true, true, true, true, true, true, true, true, true, true, true, true, true, true, true, true, true, true, true, true, true, true, true, true, true, true, true, true, false] rfl rfl (by kernel_rfl) (fun _ _ _ h => h) (Or.inl ⟨by rfl, ?_⟩) ?_ ?_
            rotate_left
            · intro w'
              go_simp
              with_reducible rfl
            rotate_left
            · simp only [Act.put, List.setIfInBounds_toArray, List.set_cons_zero, List.set_cons_succ, i64_w, i32_w]
              rfl
            refine pure_ (i := 37) (N := some 119) (v := ?_) (a' := ?_) #[true, true, true, true, true, true, true, true, true, true, true, true, true, true, true, true, true, true, true, true, true, true, true, true, true, true, true, true, true, true, true, true, true, true, true, true, true, true] rfl rfl (by kernel_rfl) (fun _ _ _ h => h) (Or.inl ⟨by rfl, ?_⟩) ?_ ?_
            rotate_left
            · intro w'
              go_simp
              with_reducible rfl
            rotate_left
            · simp only [Act.put, List.setIfInBounds_toArray, List.set_cons_zero, List.set_cons_succ, i64_w, i32_w]
              rfl
            refine done_ (by kernel_rfl) ?_
            cases bq with
            | true =>
              go_wp2_with fail
              go_ret
              exact ⟨rfl, HB7.out⟩
            | false =>
              go_wp2_with fail
              exact ⟨⟨j + 1, by omega, by go_num, ⟨HNN.out rfl⟩, ⟨HB6.out⟩⟩, by simp [intOf]; omega⟩
end Go.Proofs.YthefdpioaapomaaGreatDoor.Pz
