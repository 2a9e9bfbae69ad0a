/- The statement PatternKnown, walked by hand: it answers true. -/
import Derived.Test.YthefdpioaapomaaGreatDoorHeavyW
import Derived.Test.YthefdpioaapomaaGreatDoorExactW
namespace Go.Proofs.YthefdpioaapomaaGreatDoor.Pz
set_option linter.unusedVariables false
set_option linter.unusedSimpArgs false
open Go.RowKit Go.Proofs.YthefdpioaapomaaGreatDoorW.PrintWords Go.Proofs.YthefdpioaapomaaGreatDoorW.PrintLast Go.Proofs.YthefdpioaapomaaGreatDoor.Ext Go.Proofs.YthefdpioaapomaaGreatDoorW.PrintMore Go.Proofs.YthefdpioaapomaaGreatDoor.PA Go.Proofs.YthefdpioaapomaaGreatDoor.Pl

abbrev bads : List Bs := [[119, 111, 114, 100, 32, 101, 110, 32, 108, 111, 110, 103, 32, 109, 32, 111, 110, 101, 32, 45], [119, 111, 114, 100, 32, 101, 110, 32, 98, 105, 103, 32, 109, 32, 111, 110, 101, 32, 45, 32, 120], [119, 111, 114, 100, 32, 69, 78, 32, 108, 111, 110, 103, 32, 109, 32, 111, 110, 101, 32, 45, 32, 120], [119, 111, 114, 100, 32, 101, 110, 32, 108, 111, 110, 103, 32, 77, 32, 111, 110, 101, 32, 45, 32, 120], [119, 111, 114, 100, 32, 101, 110, 32, 108, 111, 110, 103, 32, 109, 32, 111, 110, 101, 32, 45, 32, 123, 48, 125, 123, 48, 125], [119, 111, 114, 100, 32, 101, 110, 32, 108, 111, 110, 103, 32, 109, 32, 111, 110, 101, 32, 45, 32, 123, 49, 125], [112, 111, 119, 101, 114, 32, 101, 110, 32, 108, 111, 110, 103, 32, 49, 54, 32, 45, 32, 123, 48, 125], [112, 111, 119, 101, 114, 32, 101, 110, 32, 108, 111, 110, 103, 32, 50, 32, 45, 32, 120], [112, 111, 119, 101, 114, 32, 101, 110, 32, 108, 111, 110, 103, 32, 48, 50, 32, 45, 32, 123, 48, 125], [112, 114, 101, 102, 105, 120, 101, 100, 32, 101, 110, 32, 108, 111, 110, 103, 32, 107, 105, 108, 111, 32, 123, 48, 125, 123, 49, 125], [112, 101, 114, 32, 101, 110, 32, 108, 111, 110, 103, 32, 123, 48, 125], [116, 105, 109, 101, 115, 32, 101, 110, 32, 108, 111, 110, 103, 32, 123, 48, 125, 123, 49, 125, 123, 49, 125], [112, 97, 114, 101, 110, 116, 32, 101, 110], [112, 97, 114, 101, 110, 116, 32, 101, 110, 32, 120]]
set_option maxRecDepth 100000 in
theorem bads_load : ∀ t ∈ bads, (loadB t).map (fun r => (r.1, r.2.1)) = some (1, 2) := by decide +kernel
def tBig : Bs := [112, 97, 114, 101, 110, 116, 32, 97, 116, 32, 100, 101, 10, 119, 111, 114, 100, 32, 100, 101, 32, 108, 111, 110, 103, 32, 109, 32, 111, 110, 101, 32, 100, 97, 116, 32, 123, 48, 125, 95, 77, 101, 116, 101, 114, 110, 10, 119, 111, 114, 100, 32, 100, 101, 32, 108, 111, 110, 103, 32, 109, 32, 111, 116, 104, 101, 114, 32, 45, 32, 123, 48, 125, 95, 77, 101, 116, 101, 114, 10, 119, 111, 114, 100, 32, 100, 101, 32, 115, 104, 111, 114, 116, 32, 109, 32, 111, 116, 104, 101, 114, 32, 45, 32, 123, 48, 125, 95, 109, 10, 119, 111, 114, 100, 32, 114, 111, 111, 116, 32, 108, 111, 110, 103, 32, 109, 32, 111, 110, 101, 32, 45, 32, 123, 48, 125, 95, 77, 10, 119, 111, 114, 100, 32, 114, 111, 111, 116, 32, 108, 111, 110, 103, 32, 120, 32, 102, 101, 119, 32, 45, 32, 88, 10, 112, 111, 119, 101, 114, 32, 100, 101, 32, 108, 111, 110, 103, 32, 50, 32, 102, 32, 123, 48, 125, 95, 113, 117, 97, 100, 114, 97, 116, 10, 112, 111, 119, 101, 114, 32, 100, 101, 32, 108, 111, 110, 103, 32, 50, 32, 45, 32, 123, 48, 125, 113, 10, 112, 101, 114, 32, 114, 111, 111, 116, 32, 115, 104, 111, 114, 116, 32, 123, 48, 125, 47, 123, 49, 125, 10]
def sBig : PSt := ([(⟨[112, 101, 114], [114, 111, 111, 116], [115, 104, 111, 114, 116], [], [], []⟩, [123, 48, 125, 47, 123, 49, 125]), (⟨[112, 111, 119, 101, 114], [100, 101], [108, 111, 110, 103], [50], [], []⟩, [123, 48, 125, 113]), (⟨[112, 111, 119, 101, 114], [100, 101], [108, 111, 110, 103], [50], [102], []⟩, [123, 48, 125, 32, 113, 117, 97, 100, 114, 97, 116]), (⟨[119, 111, 114, 100], [114, 111, 111, 116], [108, 111, 110, 103], [120], [102, 101, 119], []⟩, [88]), (⟨[119, 111, 114, 100], [114, 111, 111, 116], [108, 111, 110, 103], [109], [111, 110, 101], []⟩, [123, 48, 125, 32, 77]), (⟨[119, 111, 114, 100], [100, 101], [115, 104, 111, 114, 116], [109], [111, 116, 104, 101, 114], []⟩, [123, 48, 125, 32, 109]), (⟨[119, 111, 114, 100], [100, 101], [108, 111, 110, 103], [109], [111, 116, 104, 101, 114], []⟩, [123, 48, 125, 32, 77, 101, 116, 101, 114]), (⟨[119, 111, 114, 100], [100, 101], [108, 111, 110, 103], [109], [111, 110, 101], [100, 97, 116]⟩, [123, 48, 125, 32, 77, 101, 116, 101, 114, 110])], [([97, 116], [100, 101])])
set_option maxRecDepth 100000 in
theorem load_big : loadB tBig = some (0, 0, sBig) := by kernel_rfl
def tRef0 : Bs := [119, 111, 114, 100, 32, 101, 110, 32, 108, 111, 110, 103, 32, 109, 32, 111, 110, 101, 32, 45, 32, 120, 10, 119, 111, 114, 100, 32, 101, 110, 32, 108, 111, 110, 103, 32, 109, 32, 111, 110, 101, 32, 45, 32, 121]
set_option maxRecDepth 100000 in
theorem load_ref0 : (loadB tRef0).map (fun r => (r.1, r.2.1)) = some (2, 10) := by decide +kernel
def tRef1 : Bs := [112, 97, 114, 101, 110, 116, 32, 101, 110, 32, 100, 101, 10, 112, 97, 114, 101, 110, 116, 32, 101, 110, 32, 102, 114]
set_option maxRecDepth 100000 in
theorem load_ref1 : (loadB tRef1).map (fun r => (r.1, r.2.1)) = some (2, 10) := by decide +kernel
def tRef2 : Bs := [112, 97, 114, 101, 110, 116, 32, 101, 110, 32, 100, 101, 10, 112, 97, 114, 101, 110, 116, 32, 100, 101, 32, 101, 110]
set_option maxRecDepth 100000 in
theorem load_ref2 : (loadB tRef2).map (fun r => (r.1, r.2.1)) = some (2, 7) := by decide +kernel
def tRef3 : Bs := [112, 97, 114, 101, 110, 116, 32, 101, 110, 32, 101, 110]
set_option maxRecDepth 100000 in
theorem load_ref3 : (loadB tRef3).map (fun r => (r.1, r.2.1)) = some (1, 7) := by decide +kernel
theorem chain_at : chainF sBig.2 100 [97, 116] = some [[97, 116], [100, 101], [114, 111, 111, 116]] := by decide +kernel
theorem chain_fr : chainF sBig.2 100 [102, 114] = some [[102, 114], [114, 111, 111, 116]] := by decide +kernel
theorem chain_root : chainF sBig.2 100 [114, 111, 111, 116] = some [[114, 111, 111, 116]] := by decide +kernel
theorem find_k0 : (findP1 sBig.1 [119, 111, 114, 100] [109] (catsB [119, 111, 114, 100] [111, 110, 101]) [[100, 97, 116], []] (widthsB [108, 111, 110, 103]) [[97, 116], [100, 101], [114, 111, 111, 116]]).getD [45] = [123, 48, 125, 32, 77, 101, 116, 101, 114, 110] := by decide +kernel
theorem find_k1 : (findP1 sBig.1 [119, 111, 114, 100] [109] (catsB [119, 111, 114, 100] [102, 101, 119]) [[100, 97, 116], []] (widthsB [108, 111, 110, 103]) [[97, 116], [100, 101], [114, 111, 111, 116]]).getD [45] = [123, 48, 125, 32, 77, 101, 116, 101, 114] := by decide +kernel
theorem find_k2 : (findP1 sBig.1 [119, 111, 114, 100] [109] (catsB [119, 111, 114, 100] [111, 110, 101]) [[], []] (widthsB [110, 97, 114, 114, 111, 119]) [[97, 116], [100, 101], [114, 111, 111, 116]]).getD [45] = [123, 48, 125, 32, 109] := by decide +kernel
theorem find_k3 : (findP1 sBig.1 [119, 111, 114, 100] [109] (catsB [119, 111, 114, 100] [111, 110, 101]) [[], []] (widthsB [115, 104, 111, 114, 116]) [[102, 114], [114, 111, 111, 116]]).getD [45] = [123, 48, 125, 32, 77] := by decide +kernel
theorem find_k4 : (findP1 sBig.1 [119, 111, 114, 100] [109] (catsB [119, 111, 114, 100] [116, 119, 111]) [[], []] (widthsB [115, 104, 111, 114, 116]) [[102, 114], [114, 111, 111, 116]]).getD [45] = [45] := by decide +kernel
theorem find_k5 : (findP1 sBig.1 [112, 111, 119, 101, 114] [50] (catsB [112, 111, 119, 101, 114] [102]) [[], []] (widthsB [115, 104, 111, 114, 116]) [[97, 116], [100, 101], [114, 111, 111, 116]]).getD [45] = [123, 48, 125, 32, 113, 117, 97, 100, 114, 97, 116] := by decide +kernel
theorem find_k6 : (findP1 sBig.1 [112, 111, 119, 101, 114] [50] (catsB [112, 111, 119, 101, 114] [109]) [[], []] (widthsB [115, 104, 111, 114, 116]) [[97, 116], [100, 101], [114, 111, 111, 116]]).getD [45] = [123, 48, 125, 113] := by decide +kernel
theorem find_k7 : (findP1 sBig.1 [112, 101, 114] [] (catsB [112, 101, 114] []) [[], []] (widthsB [115, 104, 111, 114, 116]) [[102, 114], [114, 111, 111, 116]]).getD [45] = [123, 48, 125, 47, 123, 49, 125] := by decide +kernel
theorem find_k8 : (findP1 sBig.1 [112, 101, 114] [] (catsB [112, 101, 114] []) [[], []] (widthsB [108, 111, 110, 103]) [[102, 114], [114, 111, 111, 116]]).getD [45] = [45] := by decide +kernel
theorem exact_k0 : getP sBig.1 ⟨[119, 111, 114, 100], [97, 116], [108, 111, 110, 103], [109], [111, 110, 101], []⟩ = none := by decide +kernel
theorem exact_k1 : getP sBig.1 ⟨[119, 111, 114, 100], [100, 101], [108, 111, 110, 103], [109], [111, 110, 101], [100, 97, 116]⟩ = some [123, 48, 125, 32, 77, 101, 116, 101, 114, 110] := by decide +kernel
theorem fill_k : fillB [ofL [97], ofL [123, 48, 125]] [123, 49, 125, 123, 48, 125, 123, 50, 125, 123, 120, 125, 123] = [123, 48, 125, 97, 123, 50, 125, 123, 120, 125, 123] := by rfl
/-! The contracts, for closed arguments -/
set_option maxHeartbeats 2000000 in
set_option maxRecDepth 100000 in
theorem refused22_any (s : ByteArray) (t : Bs) (hs : s = ofL t) (n f : Int) (hx : (loadB t).map (fun r => (r.1, r.2.1)) = some (n, f)) (hf : f ≠ 0) (w : World) (hG : Glob w) :
    Calls Tryz.prog 8 #[.string s, .int .i64 n, .int .i64 f] w fun e w' => e = .returned (.bool true) ∧ Below w.heap.size w w' := by
  obtain ⟨r, hr, hq⟩ := Option.map_eq_some_iff.1 hx
  obtain ⟨n', f', x⟩ := r
  obtain ⟨rfl, rfl⟩ := Prod.mk.inj hq
  have HG := Aside0.mk hG
  have HF := Aside0.mk hf
  have HX := Aside0.mk (loadB_Z hr)
  have HS := Aside0.mk hs
  clear hG hx hf hr hq hs
  go_enter Tryz.func8, Tryz.ntmps8
  go_wp2_with fail
  refine (load22_any s t HS.out _ HX.out w HG.out).mono ?_
  rintro e w1 ⟨hL0, hb⟩
  have HB := Aside0.mk hb
  clear hb
  rcases hL0 with ⟨h1, _⟩ | ⟨_, rfl⟩
  · exact absurd h1 HF.out
  · dsimp only
    go_wp2_with fail
    go_ret
    exact ⟨rfl, HB.out⟩
theorem smallP (s : Bs) (h : s.length ≤ 1000) : (ofL s).size ≤ maxLen := by rw [ofL_size]; unfold maxLen; omega
theorem exact22_any (B M Q n : Nat) (ks : PKs) (ps : PPs) (kd la wd nm ct ca : Bs) (w : World) (hL : WordsAt w B M Q n (encKs ks) (encPs ps)) (hs : kd.length ≤ 1000 ∧ la.length ≤ 1000 ∧ wd.length ≤ 1000 ∧ nm.length ≤ 1000 ∧ ct.length ≤ 1000 ∧ ca.length ≤ 1000) (r : Option Bs) (hr : getP ks ⟨kd, la, wd, nm, ct, ca⟩ = r) :
    Calls Tryz.prog 10 #[.pointer (some ⟨B, 0, none⟩), .agg #[.string (ofL kd), .string (ofL la), .string (ofL wd), .string (ofL nm), .string (ofL ct), .string (ofL ca)]] w fun e w' => e = .returned (.tuple #[.string (ofL (r.getD [])), .bool r.isSome]) ∧ Below w.heap.size w w' := by
  subst hr
  have h := exact_any B M Q n (encKs ks) (encPs ps) (enc6 ⟨kd, la, wd, nm, ct, ca⟩) w hL ⟨smallP _ hs.1, smallP _ hs.2.1, smallP _ hs.2.2.1, smallP _ hs.2.2.2.1, smallP _ hs.2.2.2.2.1, smallP _ hs.2.2.2.2.2⟩
  unfold exactW at h
  rw [getK_enc] at h
  refine h.mono ?_
  rintro e w' ⟨rfl, hb⟩
  refine ⟨?_, hb⟩
  cases getP ks ⟨kd, la, wd, nm, ct, ca⟩ with
  | none => rfl
  | some x => rfl
theorem chain22_any (nl : Nat) {full : List Bs} (hn : nl = full.length) (B M Q n : Nat) (ks : PKs) (ps : PPs) (la : Bs) (w : World) (hL : WordsAt w B M Q n (encKs ks) (encPs ps)) (hs : la.length ≤ 1000) (hE : chainF ps 100 la = some full) (hf : full.length ≤ 100000) (hp : ∀ e ∈ ps, e.2.length ≤ 1000) :
    Calls Tryz.prog 12 #[.pointer (some ⟨B, 0, none⟩), .string (ofL la)] w fun e w' => (∃ A c, e = .returned (.slice A nl c) ∧ nl ≤ c ∧ Kd.C Kd.string w' A nl (full.map ofL)) ∧ Below w.heap.size w w' := by
  subst hn
  refine (chain_any B M Q n (encKs ks) (encPs ps) (ofL la) (full.map ofL) w hL (smallP _ hs) (chainF_ends ps 100 la full hE) (by rw [List.length_map]; exact hf) (fun e he => by obtain ⟨x, hx, rfl⟩ := List.mem_map.1 he; exact smallP _ (hp x hx))).mono ?_
  rintro e w' ⟨v, rfl, hR, hb⟩
  obtain ⟨A, c, rfl, hc, hC⟩ := Kd.R_reads hR
  rw [List.length_map] at hc hC
  exact ⟨⟨A, c, by rw [List.length_map], hc, hC⟩, hb⟩
theorem widths22_any (nl : Nat) (s : Bs) {full : List Bs} (hw : widthsB s = full) (hn : nl = full.length) (w : World) (hG : Glob w) :
    Calls Tryz.prog 15 #[.string (ofL s)] w fun e w' => (∃ A c, e = .returned (.slice A nl c) ∧ nl ≤ c ∧ Kd.C Kd.string w' A nl (full.map ofL)) ∧ Below w.heap.size w w' := by
  subst hw
  subst hn
  refine (pattern_Widths.calls (ofL s) _ w (widths_f s) hG).mono ?_
  rintro e w' ⟨v, rfl, hR, hb⟩
  obtain ⟨A, c, rfl, hc, hC⟩ := Kd.R_reads hR
  rw [List.length_map] at hc hC
  exact ⟨⟨A, c, by rw [List.length_map], hc, hC⟩, hb⟩
theorem texts22_K (nl : Nat) (l : List Bs) (hn : nl = l.length) (hl : nl < 1000) (A0 A1 : Option Addr) (c0 c1 : Nat) (w : World) (h0 : Kd.C Kd.string w A0 nl (l.map ofL)) (hc0 : nl ≤ c0) (h1 : Kd.C Kd.string w A1 nl (l.map ofL)) (hc1 : nl ≤ c1) (hG : Glob w) :
    Calls Tryz.prog 11 #[.slice A0 nl c0, .slice A1 nl c1] w fun e w' => e = .returned (.bool true) ∧ Below w.heap.size w w' := by
  have e : (l.map ofL).length = nl := by rw [List.length_map, hn]
  have h := texts22_any (l.map ofL) (by omega) A0 A1 c0 c1 w (by rw [e]; exact h0) (by rw [e]; exact hc0) (by rw [e]; exact h1) (by rw [e]; exact hc1) hG
  rwa [e] at h
set_option maxHeartbeats 2000000 in
set_option maxRecDepth 100000 in
theorem find22L_any (B M Q n : Nat) (ks : PKs) (ps : PPs) (kd la wd nm ct ca : Bs) (full : List Bs) (w : World) (hG : Glob w) (hL : WordsAt w B M Q n (encKs ks) (encPs ps)) (hs : kd.length ≤ 1000 ∧ la.length ≤ 1000 ∧ wd.length ≤ 1000 ∧ nm.length ≤ 1000 ∧ ct.length ≤ 1000 ∧ ca.length ≤ 1000)
    (hE : chainF ps 100 la = some full) (hf : full.length ≤ 100000) (hp : ∀ e ∈ ps, e.2.length ≤ 1000) (hfs : ∀ a ∈ full, a.length ≤ 1000) (r : Bs) (hr : (findP1 ks kd nm (catsB kd ct) [ca, []] (widthsB wd) full).getD [45] = r) :
    Calls Tryz.prog 13 #[.pointer (some ⟨B, 0, none⟩), .string (ofL kd), .string (ofL la), .string (ofL wd), .string (ofL nm), .string (ofL ct), .string (ofL ca)] w fun e w' => e = .returned (.string (ofL r)) ∧ Below w.heap.size w w' := by
  obtain ⟨o, ho⟩ : ∃ o, findP1 ks kd nm (catsB kd ct) [ca, []] (widthsB wd) full = o := ⟨_, rfl⟩
  have h := find22_any B M Q n ks ps kd la wd nm ct ca full w hG hL hs hE hf hp hfs o ho
  rw [ho] at hr
  have H := Aside0.mk h
  have HR := Aside0.mk hr
  clear h hr ho hE hf hp hfs hL hG
  generalize ofL kd = kd' at H
  generalize ofL la = la' at H
  generalize ofL wd = wd' at H
  generalize ofL nm = nm' at H
  generalize ofL ct = ct' at H
  generalize ofL ca = ca' at H
  go_enter Tryz.func13, Tryz.ntmps13
  go_wp2_with fail
  refine H.out.mono ?_
  rintro e w1 ⟨rfl, hb⟩
  have HB := Aside0.mk hb
  clear hb
  cases o with
  | none =>
    dsimp only [Option.getD_none, Option.isSome_none]
    go_wp2_with fail
    go_ret
    exact ⟨by rw [← HR.out]; rfl, HB.out⟩
  | some x =>
    dsimp only [Option.getD_some, Option.isSome_some]
    go_wp2_with fail
    go_ret
    exact ⟨by rw [← HR.out]; rfl, HB.out⟩

set_option maxHeartbeats 8000000 in
set_option maxRecDepth 100000 in
theorem PatternKnown_any (w : World) (hG : Glob w) : Calls Tryz.prog 3 #[] w fun e w' => e = .returned (.bool true) ∧ Below w.heap.size w w' := by
  have HG := Aside0.mk hG
  clear hG
  go_enter Tryz.func3, Tryz.ntmps3
  simp only [List.append]
  go_wp2_with fail
  refine (awake22_any w HG.out).mono ?_
  rintro e w1 ⟨rfl, hb⟩
  have HB := Aside0.mk hb
  clear hb
  have HC : Aside0 (Kd.C Kd.string (w1.alloc (.cells #[.string ⟨#[119, 111, 114, 100, 32, 101, 110, 32, 108, 111, 110, 103, 32, 109, 32, 111, 110, 101, 32, 45]⟩, .string ⟨#[119, 111, 114, 100, 32, 101, 110, 32, 98, 105, 103, 32, 109, 32, 111, 110, 101, 32, 45, 32, 120]⟩, .string ⟨#[119, 111, 114, 100, 32, 69, 78, 32, 108, 111, 110, 103, 32, 109, 32, 111, 110, 101, 32, 45, 32, 120]⟩, .string ⟨#[119, 111, 114, 100, 32, 101, 110, 32, 108, 111, 110, 103, 32, 77, 32, 111, 110, 101, 32, 45, 32, 120]⟩, .string ⟨#[119, 111, 114, 100, 32, 101, 110, 32, 108, 111, 110, 103, 32, 109, 32, 111, 110, 101, 32, 45, 32, 123, 48, 125, 123, 48, 125]⟩, .string ⟨#[119, 111, 114, 100, 32, 101, 110, 32, 108, 111, 110, 103, 32, 109, 32, 111, 110, 101, 32, 45, 32, 123, 49, 125]⟩, .string ⟨#[112, 111, 119, 101, 114, 32, 101, 110, 32, 108, 111, 110, 103, 32, 49, 54, 32, 45, 32, 123, 48, 125]⟩, .string ⟨#[112, 111, 119, 101, 114, 32, 101, 110, 32, 108, 111, 110, 103, 32, 50, 32, 45, 32, 120]⟩, .string ⟨#[112, 111, 119, 101, 114, 32, 101, 110, 32, 108, 111, 110, 103, 32, 48, 50, 32, 45, 32, 123, 48, 125]⟩, .string ⟨#[112, 114, 101, 102, 105, 120, 101, 100, 32, 101, 110, 32, 108, 111, 110, 103, 32, 107, 105, 108, 111, 32, 123, 48, 125, 123, 49, 125]⟩, .string ⟨#[112, 101, 114, 32, 101, 110, 32, 108, 111, 110, 103, 32, 123, 48, 125]⟩, .string ⟨#[116, 105, 109, 101, 115, 32, 101, 110, 32, 108, 111, 110, 103, 32, 123, 48, 125, 123, 49, 125, 123, 49, 125]⟩, .string ⟨#[112, 97, 114, 101, 110, 116, 32, 101, 110]⟩, .string ⟨#[112, 97, 114, 101, 110, 116, 32, 101, 110, 32, 120]⟩] 9)) (some ⟨w1.heap.size, 0, none⟩) 14 (bads.map ofL)) := ⟨litS w1 _ rfl bads (by decide)⟩
  have HB1 : Aside0 (Below w.heap.size w (w1.alloc (.cells #[.string ⟨#[119, 111, 114, 100, 32, 101, 110, 32, 108, 111, 110, 103, 32, 109, 32, 111, 110, 101, 32, 45]⟩, .string ⟨#[119, 111, 114, 100, 32, 101, 110, 32, 98, 105, 103, 32, 109, 32, 111, 110, 101, 32, 45, 32, 120]⟩, .string ⟨#[119, 111, 114, 100, 32, 69, 78, 32, 108, 111, 110, 103, 32, 109, 32, 111, 110, 101, 32, 45, 32, 120]⟩, .string ⟨#[119, 111, 114, 100, 32, 101, 110, 32, 108, 111, 110, 103, 32, 77, 32, 111, 110, 101, 32, 45, 32, 120]⟩, .string ⟨#[119, 111, 114, 100, 32, 101, 110, 32, 108, 111, 110, 103, 32, 109, 32, 111, 110, 101, 32, 45, 32, 123, 48, 125, 123, 48, 125]⟩, .string ⟨#[119, 111, 114, 100, 32, 101, 110, 32, 108, 111, 110, 103, 32, 109, 32, 111, 110, 101, 32, 45, 32, 123, 49, 125]⟩, .string ⟨#[112, 111, 119, 101, 114, 32, 101, 110, 32, 108, 111, 110, 103, 32, 49, 54, 32, 45, 32, 123, 48, 125]⟩, .string ⟨#[112, 111, 119, 101, 114, 32, 101, 110, 32, 108, 111, 110, 103, 32, 50, 32, 45, 32, 120]⟩, .string ⟨#[112, 111, 119, 101, 114, 32, 101, 110, 32, 108, 111, 110, 103, 32, 48, 50, 32, 45, 32, 123, 48, 125]⟩, .string ⟨#[112, 114, 101, 102, 105, 120, 101, 100, 32, 101, 110, 32, 108, 111, 110, 103, 32, 107, 105, 108, 111, 32, 123, 48, 125, 123, 49, 125]⟩, .string ⟨#[112, 101, 114, 32, 101, 110, 32, 108, 111, 110, 103, 32, 123, 48, 125]⟩, .string ⟨#[116, 105, 109, 101, 115, 32, 101, 110, 32, 108, 111, 110, 103, 32, 123, 48, 125, 123, 49, 125, 123, 49, 125]⟩, .string ⟨#[112, 97, 114, 101, 110, 116, 32, 101, 110]⟩, .string ⟨#[112, 97, 114, 101, 110, 116, 32, 101, 110, 32, 120]⟩] 9))) := ⟨below_alloc HB.out _⟩
  go_wp2_with fail
  generalize (w1.alloc (.cells #[.string ⟨#[119, 111, 114, 100, 32, 101, 110, 32, 108, 111, 110, 103, 32, 109, 32, 111, 110, 101, 32, 45]⟩, .string ⟨#[119, 111, 114, 100, 32, 101, 110, 32, 98, 105, 103, 32, 109, 32, 111, 110, 101, 32, 45, 32, 120]⟩, .string ⟨#[119, 111, 114, 100, 32, 69, 78, 32, 108, 111, 110, 103, 32, 109, 32, 111, 110, 101, 32, 45, 32, 120]⟩, .string ⟨#[119, 111, 114, 100, 32, 101, 110, 32, 108, 111, 110, 103, 32, 77, 32, 111, 110, 101, 32, 45, 32, 120]⟩, .string ⟨#[119, 111, 114, 100, 32, 101, 110, 32, 108, 111, 110, 103, 32, 109, 32, 111, 110, 101, 32, 45, 32, 123, 48, 125, 123, 48, 125]⟩, .string ⟨#[119, 111, 114, 100, 32, 101, 110, 32, 108, 111, 110, 103, 32, 109, 32, 111, 110, 101, 32, 45, 32, 123, 49, 125]⟩, .string ⟨#[112, 111, 119, 101, 114, 32, 101, 110, 32, 108, 111, 110, 103, 32, 49, 54, 32, 45, 32, 123, 48, 125]⟩, .string ⟨#[112, 111, 119, 101, 114, 32, 101, 110, 32, 108, 111, 110, 103, 32, 50, 32, 45, 32, 120]⟩, .string ⟨#[112, 111, 119, 101, 114, 32, 101, 110, 32, 108, 111, 110, 103, 32, 48, 50, 32, 45, 32, 123, 48, 125]⟩, .string ⟨#[112, 114, 101, 102, 105, 120, 101, 100, 32, 101, 110, 32, 108, 111, 110, 103, 32, 107, 105, 108, 111, 32, 123, 48, 125, 123, 49, 125]⟩, .string ⟨#[112, 101, 114, 32, 101, 110, 32, 108, 111, 110, 103, 32, 123, 48, 125]⟩, .string ⟨#[116, 105, 109, 101, 115, 32, 101, 110, 32, 108, 111, 110, 103, 32, 123, 48, 125, 123, 49, 125, 123, 49, 125]⟩, .string ⟨#[112, 97, 114, 101, 110, 116, 32, 101, 110]⟩, .string ⟨#[112, 97, 114, 101, 110, 116, 32, 101, 110, 32, 120]⟩] 9)) = w2 at HC HB1 ⊢
  obtain ⟨z1, hz1⟩ : ∃ z, w1.heap.size = z := ⟨_, rfl⟩
  rw [hz1] at HC ⊢
  clear hz1 HB
  go_loopw [2] (fun i wr => ∃ (j : Nat), j ≤ 14 ∧ i = .int .i64 j ∧ Aside0 (Below w2.heap.size w2 wr)) (fun i _ => 14 - (intOf i).toNat)
  case atStart => exact ⟨0, Nat.zero_le _, rfl, ⟨Below.refl _ _⟩⟩
  case round =>
    obtain ⟨j, hj, rfl, HBr⟩ := hrel
    rename_i wr
    by_cases hlt : j < 14
    case pos =>
      obtain ⟨b1, o1, e1, hcs⟩ := C_strsD HC.out (by decide)
      cases e1
      have hx : wr.cell? ⟨z1, j, none⟩ = _ := pw_cell_below HBr.out (by have h := hcs j hlt; rwa [Nat.zero_add] at h)
      have hm : ∃ t ∈ bads, (bads.map ofL).getD j ByteArray.empty = ofL t := by
        have hl : j < (bads.map ofL).length := hlt
        rw [List.getD_eq_getElem?_getD, List.getElem?_eq_getElem hl, Option.getD_some, List.getElem_map]
        exact ⟨_, List.getElem_mem _, rfl⟩
      obtain ⟨x, hxx⟩ : ∃ x, (bads.map ofL).getD j ByteArray.empty = x := ⟨_, rfl⟩
      rw [hxx] at hx hm
      obtain ⟨t, ht, hxt⟩ := hm
      have HT := Aside0.mk (bads_load t ht)
      have HXt := Aside0.mk hxt
      have b0 : (0 : Int) ≤ (j : Int) := by omega
      have b1 : (j : Int) < 14 := by omega
      clear hcs hxx ht hxt
      go_wp2_with fail
      refine (refused22_any x t HXt.out 1 2 HT.out (by decide) _ (HG.out.below (below_step HB1.out HBr.out))).mono ?_
      rintro e w3 ⟨rfl, hb⟩
      have HB3 := Aside0.mk (below_step HBr.out hb)
      clear hb hx
      go_wp2_with fail
      exact ⟨⟨j + 1, by omega, by go_num, HB3⟩, by simp [intOf]; omega⟩
    case neg =>
      obtain rfl : j = 14 := by omega
      have HB : Aside0 (Below w.heap.size w wr) := ⟨below_step HB1.out HBr.out⟩
      clear HC HB1 HBr hlt hj
      go_wp2_with fail
      refine (load22_any _ tBig (by rfl) _ (loadB_Z load_big) _ (HG.out.below HB.out)).mono ?_
      rintro e v0 ⟨hL0, hb⟩
      obtain ⟨B, M, Q, n, rfl, hL⟩ := loaded_ok hL0
      have HL : Aside0 (WordsAt v0 B M Q n (encKs sBig.1) (encPs sBig.2)) := ⟨hL⟩
      replace HB := Aside0.mk (below_step HB.out hb)
      clear hL0 hL hb
      go_wp2_with fail
      refine (exact22_any B M Q n sBig.1 sBig.2 [119, 111, 114, 100] [97, 116] [108, 111, 110, 103] [109] [111, 110, 101] [] _ HL.out (by decide) _ exact_k0).mono ?_
      rintro e e0 ⟨rfl, hb⟩
      replace HL := Aside0.mk (HL.out.below hb)
      replace HB := Aside0.mk (below_step HB.out hb)
      clear hb
      dsimp only [Option.getD_some, Option.isSome_some, Option.getD_none, Option.isSome_none]
      go_wp2_with fail
      refine (exact22_any B M Q n sBig.1 sBig.2 [119, 111, 114, 100] [100, 101] [108, 111, 110, 103] [109] [111, 110, 101] [100, 97, 116] _ HL.out (by decide) _ exact_k1).mono ?_
      rintro e e1 ⟨rfl, hb⟩
      replace HL := Aside0.mk (HL.out.below hb)
      replace HB := Aside0.mk (below_step HB.out hb)
      clear hb
      dsimp only [Option.getD_some, Option.isSome_some, Option.getD_none, Option.isSome_none]
      go_wp2_with fail
      refine (refused22_any _ tRef0 (by rfl) 2 10 load_ref0 (by decide) _ (HG.out.below HB.out)).mono ?_
      rintro e r0 ⟨rfl, hb⟩
      replace HL := Aside0.mk (HL.out.below hb)
      replace HB := Aside0.mk (below_step HB.out hb)
      clear hb
      go_wp2_with fail
      refine (refused22_any _ tRef1 (by rfl) 2 10 load_ref1 (by decide) _ (HG.out.below HB.out)).mono ?_
      rintro e r1 ⟨rfl, hb⟩
      replace HL := Aside0.mk (HL.out.below hb)
      replace HB := Aside0.mk (below_step HB.out hb)
      clear hb
      go_wp2_with fail
      refine (refused22_any _ tRef2 (by rfl) 2 7 load_ref2 (by decide) _ (HG.out.below HB.out)).mono ?_
      rintro e r2 ⟨rfl, hb⟩
      replace HL := Aside0.mk (HL.out.below hb)
      replace HB := Aside0.mk (below_step HB.out hb)
      clear hb
      go_wp2_with fail
      refine (refused22_any _ tRef3 (by rfl) 1 7 load_ref3 (by decide) _ (HG.out.below HB.out)).mono ?_
      rintro e r3 ⟨rfl, hb⟩
      replace HL := Aside0.mk (HL.out.below hb)
      replace HB := Aside0.mk (below_step HB.out hb)
      clear hb
      go_wp2_with fail
      refine (chain22_any 3 rfl B M Q n sBig.1 sBig.2 [97, 116] _ HL.out (by decide) chain_at (by decide) (by decide)).mono ?_
      rintro e c0 ⟨⟨A0, cp0, rfl, hc0, hC0⟩, hb⟩
      have HC0 := Aside0.mk hC0
      replace HL := Aside0.mk (HL.out.below hb)
      replace HB := Aside0.mk (below_step HB.out hb)
      clear hb hC0
      go_wp2_with fail
      refine (texts22_K 3 [[97, 116], [100, 101], [114, 111, 111, 116]] rfl (by decide) _ _ _ _ _ (Kd.C_alloc HC0.out _) hc0 (litS c0 _ rfl [[97, 116], [100, 101], [114, 111, 111, 116]] (by decide)) (Nat.le_refl _) ((HG.out.below HB.out).alloc _)).mono ?_
      rintro e t0 ⟨rfl, hb⟩
      replace HL := Aside0.mk ((HL.out.below (below_alloc (Below.refl _ _) _)).below hb)
      replace HB := Aside0.mk (below_step (below_alloc HB.out _) hb)
      clear hb
      clear HC0
      go_wp2_with fail
      refine (chain22_any 1 rfl B M Q n sBig.1 sBig.2 [114, 111, 111, 116] _ HL.out (by decide) chain_root (by decide) (by decide)).mono ?_
      rintro e c1 ⟨⟨A1, cp1, rfl, hc1, hC1⟩, hb⟩
      have HC1 := Aside0.mk hC1
      replace HL := Aside0.mk (HL.out.below hb)
      replace HB := Aside0.mk (below_step HB.out hb)
      clear hb hC1
      go_wp2_with fail
      refine (texts22_K 1 [[114, 111, 111, 116]] rfl (by decide) _ _ _ _ _ (Kd.C_alloc HC1.out _) hc1 (litS c1 _ rfl [[114, 111, 111, 116]] (by decide)) (Nat.le_refl _) ((HG.out.below HB.out).alloc _)).mono ?_
      rintro e t1 ⟨rfl, hb⟩
      replace HL := Aside0.mk ((HL.out.below (below_alloc (Below.refl _ _) _)).below hb)
      replace HB := Aside0.mk (below_step (below_alloc HB.out _) hb)
      clear hb
      clear HC1
      have tl : ∀ l, (ofL l).toList = l := ofL_toList
      go_wp2_with fail
      refine (find22L_any B M Q n sBig.1 sBig.2 [119, 111, 114, 100] [97, 116] [108, 111, 110, 103] [109] [111, 110, 101] [100, 97, 116] _ _ (HG.out.below HB.out) HL.out (by decide) chain_at (by decide) (by decide) (by decide) _ find_k0).mono ?_
      rintro e f0 ⟨rfl, hb⟩
      replace HL := Aside0.mk (HL.out.below hb)
      replace HB := Aside0.mk (below_step HB.out hb)
      clear hb
      go_wp2_with fail
      refine (find22L_any B M Q n sBig.1 sBig.2 [119, 111, 114, 100] [97, 116] [108, 111, 110, 103] [109] [102, 101, 119] [100, 97, 116] _ _ (HG.out.below HB.out) HL.out (by decide) chain_at (by decide) (by decide) (by decide) _ find_k1).mono ?_
      rintro e f1 ⟨rfl, hb⟩
      replace HL := Aside0.mk (HL.out.below hb)
      replace HB := Aside0.mk (below_step HB.out hb)
      clear hb
      go_wp2_with fail
      refine (find22L_any B M Q n sBig.1 sBig.2 [119, 111, 114, 100] [97, 116] [110, 97, 114, 114, 111, 119] [109] [111, 110, 101] [] _ _ (HG.out.below HB.out) HL.out (by decide) chain_at (by decide) (by decide) (by decide) _ find_k2).mono ?_
      rintro e f2 ⟨rfl, hb⟩
      replace HL := Aside0.mk (HL.out.below hb)
      replace HB := Aside0.mk (below_step HB.out hb)
      clear hb
      go_wp2_with fail
      refine (find22L_any B M Q n sBig.1 sBig.2 [119, 111, 114, 100] [102, 114] [115, 104, 111, 114, 116] [109] [111, 110, 101] [] _ _ (HG.out.below HB.out) HL.out (by decide) chain_fr (by decide) (by decide) (by decide) _ find_k3).mono ?_
      rintro e f3 ⟨rfl, hb⟩
      replace HL := Aside0.mk (HL.out.below hb)
      replace HB := Aside0.mk (below_step HB.out hb)
      clear hb
      go_wp2_with fail
      refine (find22L_any B M Q n sBig.1 sBig.2 [119, 111, 114, 100] [102, 114] [115, 104, 111, 114, 116] [109] [116, 119, 111] [] _ _ (HG.out.below HB.out) HL.out (by decide) chain_fr (by decide) (by decide) (by decide) _ find_k4).mono ?_
      rintro e f4 ⟨rfl, hb⟩
      replace HL := Aside0.mk (HL.out.below hb)
      replace HB := Aside0.mk (below_step HB.out hb)
      clear hb
      go_wp2_with fail
      refine (find22L_any B M Q n sBig.1 sBig.2 [112, 111, 119, 101, 114] [97, 116] [115, 104, 111, 114, 116] [50] [102] [] _ _ (HG.out.below HB.out) HL.out (by decide) chain_at (by decide) (by decide) (by decide) _ find_k5).mono ?_
      rintro e f5 ⟨rfl, hb⟩
      replace HL := Aside0.mk (HL.out.below hb)
      replace HB := Aside0.mk (below_step HB.out hb)
      clear hb
      go_wp2_with fail
      refine (find22L_any B M Q n sBig.1 sBig.2 [112, 111, 119, 101, 114] [97, 116] [115, 104, 111, 114, 116] [50] [109] [] _ _ (HG.out.below HB.out) HL.out (by decide) chain_at (by decide) (by decide) (by decide) _ find_k6).mono ?_
      rintro e f6 ⟨rfl, hb⟩
      replace HL := Aside0.mk (HL.out.below hb)
      replace HB := Aside0.mk (below_step HB.out hb)
      clear hb
      go_wp2_with fail
      refine (find22L_any B M Q n sBig.1 sBig.2 [112, 101, 114] [102, 114] [115, 104, 111, 114, 116] [] [] [] _ _ (HG.out.below HB.out) HL.out (by decide) chain_fr (by decide) (by decide) (by decide) _ find_k7).mono ?_
      rintro e f7 ⟨rfl, hb⟩
      replace HL := Aside0.mk (HL.out.below hb)
      replace HB := Aside0.mk (below_step HB.out hb)
      clear hb
      go_wp2_with fail
      refine (find22L_any B M Q n sBig.1 sBig.2 [112, 101, 114] [102, 114] [108, 111, 110, 103] [] [] [] _ _ (HG.out.below HB.out) HL.out (by decide) chain_fr (by decide) (by decide) (by decide) _ find_k8).mono ?_
      rintro e f8 ⟨rfl, hb⟩
      replace HL := Aside0.mk (HL.out.below hb)
      replace HB := Aside0.mk (below_step HB.out hb)
      clear hb
      go_wp2_with fail
      refine (fill_any _ _ 2 [ofL [97], ofL [123, 48, 125]] _ (litS f8 _ rfl [[97], [123, 48, 125]] (by decide)) (Nat.le_refl _) (by decide) (by rw [show (⟨#[123, 49, 125, 123, 48, 125, 123, 50, 125, 123, 120, 125, 123]⟩ : ByteArray).data.toList = [123, 49, 125, 123, 48, 125, 123, 50, 125, 123, 120, 125, 123] from rfl, fill_k]; decide)).mono ?_
      rintro e g0 ⟨rfl, hb⟩
      replace HL := Aside0.mk ((HL.out.below (below_alloc (Below.refl _ _) _)).below hb)
      replace HB := Aside0.mk (below_step (below_alloc HB.out _) hb)
      clear hb
      rw [show (⟨#[123, 49, 125, 123, 48, 125, 123, 50, 125, 123, 120, 125, 123]⟩ : ByteArray).data.toList = [123, 49, 125, 123, 48, 125, 123, 50, 125, 123, 120, 125, 123] from rfl, fill_k]
      have eF : (⟨([123, 48, 125, 97, 123, 50, 125, 123, 120, 125, 123] : List UInt8).toArray⟩ : ByteArray) = ofL [123, 48, 125, 97, 123, 50, 125, 123, 120, 125, 123] := rfl
      rw [eF]
      clear eF
      go_wp2_with fail
      refine (widths22_any 3 [110, 97, 114, 114, 111, 119] rfl rfl _ (HG.out.below HB.out)).mono ?_
      rintro e c2 ⟨⟨A2, cp2, rfl, hc2, hC2⟩, hb⟩
      have HC2 := Aside0.mk hC2
      replace HL := Aside0.mk (HL.out.below hb)
      replace HB := Aside0.mk (below_step HB.out hb)
      clear hb hC2
      go_wp2_with fail
      refine (texts22_K 3 [[110, 97, 114, 114, 111, 119], [115, 104, 111, 114, 116], [108, 111, 110, 103]] rfl (by decide) _ _ _ _ _ (Kd.C_alloc HC2.out _) hc2 (litS c2 _ rfl [[110, 97, 114, 114, 111, 119], [115, 104, 111, 114, 116], [108, 111, 110, 103]] (by decide)) (Nat.le_refl _) ((HG.out.below HB.out).alloc _)).mono ?_
      rintro e t2 ⟨rfl, hb⟩
      replace HL := Aside0.mk ((HL.out.below (below_alloc (Below.refl _ _) _)).below hb)
      replace HB := Aside0.mk (below_step (below_alloc HB.out _) hb)
      clear hb
      clear HC2
      go_wp2_with fail
      refine (widths22_any 1 [63] rfl rfl _ (HG.out.below HB.out)).mono ?_
      rintro e c3 ⟨⟨A3, cp3, rfl, hc3, hC3⟩, hb⟩
      have HC3 := Aside0.mk hC3
      replace HL := Aside0.mk (HL.out.below hb)
      replace HB := Aside0.mk (below_step HB.out hb)
      clear hb hC3
      go_wp2_with fail
      refine (texts22_K 1 [[108, 111, 110, 103]] rfl (by decide) _ _ _ _ _ (Kd.C_alloc HC3.out _) hc3 (litS c3 _ rfl [[108, 111, 110, 103]] (by decide)) (Nat.le_refl _) ((HG.out.below HB.out).alloc _)).mono ?_
      rintro e t3 ⟨rfl, hb⟩
      replace HL := Aside0.mk ((HL.out.below (below_alloc (Below.refl _ _) _)).below hb)
      replace HB := Aside0.mk (below_step (below_alloc HB.out _) hb)
      clear hb
      clear HC3
      go_wp2_with fail
      go_ret
      exact ⟨rfl, HB.out⟩
end Go.Proofs.YthefdpioaapomaaGreatDoor.Pz
