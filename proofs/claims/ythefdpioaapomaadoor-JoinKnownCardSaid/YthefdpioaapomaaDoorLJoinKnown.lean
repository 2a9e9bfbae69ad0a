/- The statement JoinKnown, walked by hand: it answers true. -/
import Derived.Test.YthefdpioaapomaaDoorLoadJ
import Derived.Test.YthefdpioaapomaaDoorPJ1
namespace Go.Proofs.YthefdpioaapomaaDoor.Pj
set_option linter.unusedVariables false
set_option linter.unusedSimpArgs false
open Go.RowKit Go.Proofs.YthefdpioaapomaaDoorW.PrintWords Go.Proofs.YthefdpioaapomaaDoorW.PrintLast Go.Proofs.YthefdpioaapomaaDoor.Ext Go.Proofs.YthefdpioaapomaaDoorW.PrintMore Go.Proofs.YthefdpioaapomaaDoor.PA Go.Proofs.YthefdpioaapomaaDoor.PJ Go.Proofs.YthefdpioaapomaaDoor.Pl Go.Proofs.YthefdpioaapomaaDoor.Pu7

def tKnown : Bs := [120, 10, 108, 105, 115, 116, 32, 114, 111, 111, 116, 32, 108, 111, 110, 103, 32, 123, 48, 125, 95, 97, 110, 100, 95, 123, 49, 125, 32, 83, 123, 48, 125, 46, 123, 49, 125, 32, 77, 123, 48, 125, 44, 123, 49, 125, 32, 69, 123, 48, 125, 95, 38, 95, 123, 49, 125, 10, 108, 105, 115, 116, 32, 101, 110, 32, 115, 104, 111, 114, 116, 32, 123, 49, 125, 43, 123, 48, 125, 32, 123, 48, 125, 123, 49, 125, 32, 123, 48, 125, 123, 49, 125, 32, 123, 48, 125, 123, 49, 125]
def fKnown : PL := [(([101, 110], wShort), [[123, 49, 125, 43, 123, 48, 125], [123, 48, 125, 123, 49, 125], [123, 48, 125, 123, 49, 125], [123, 48, 125, 123, 49, 125]]), ((wRoot, wLong), [[123, 48, 125, 32, 97, 110, 100, 32, 123, 49, 125], [83, 123, 48, 125, 46, 123, 49, 125], [77, 123, 48, 125, 44, 123, 49, 125], [69, 123, 48, 125, 32, 38, 32, 123, 49, 125]])]
set_option maxRecDepth 100000 in
theorem load_known : loadB tKnown = (0, 0, fKnown) := by decide +kernel
theorem four_known : FourP 120 fKnown := by unfold FourP fKnown; decide
def tBad0 : Bs := [108, 105, 115, 116, 32, 101, 110, 32, 108, 111, 110, 103, 32, 123, 48, 125, 123, 49, 125, 32, 123, 48, 125, 123, 49, 125, 32, 123, 48, 125, 123, 49, 125]
set_option maxRecDepth 100000 in
theorem load_bad0 : (loadB tBad0).1 = 1 ∧ (loadB tBad0).2.1 = 2 := by decide +kernel
def tBad1 : Bs := [108, 105, 115, 116, 32, 101, 110, 32, 108, 111, 110, 103, 32, 123, 48, 125, 123, 49, 125, 32, 123, 48, 125, 123, 49, 125, 32, 123, 48, 125, 123, 49, 125, 32, 123, 48, 125]
set_option maxRecDepth 100000 in
theorem load_bad1 : (loadB tBad1).1 = 1 ∧ (loadB tBad1).2.1 = 2 := by decide +kernel
def tBad2 : Bs := [108, 105, 115, 116, 32, 101, 110, 32, 108, 111, 110, 103, 32, 123, 48, 125, 123, 49, 125, 123, 49, 125, 32, 123, 48, 125, 123, 49, 125, 32, 123, 48, 125, 123, 49, 125, 32, 123, 48, 125, 123, 49, 125]
set_option maxRecDepth 100000 in
theorem load_bad2 : (loadB tBad2).1 = 1 ∧ (loadB tBad2).2.1 = 2 := by decide +kernel
def tBad3 : Bs := [108, 105, 115, 116, 32, 69, 78, 32, 108, 111, 110, 103, 32, 123, 48, 125, 123, 49, 125, 32, 123, 48, 125, 123, 49, 125, 32, 123, 48, 125, 123, 49, 125, 32, 123, 48, 125, 123, 49, 125]
set_option maxRecDepth 100000 in
theorem load_bad3 : (loadB tBad3).1 = 1 ∧ (loadB tBad3).2.1 = 2 := by decide +kernel
def tBad4 : Bs := [108, 105, 115, 116, 32, 101, 110, 32, 108, 111, 110, 103, 32, 123, 48, 125, 123, 49, 125, 32, 123, 48, 125, 123, 49, 125, 32, 123, 48, 125, 123, 49, 125, 32, 123, 48, 125, 123, 49, 125, 10, 108, 105, 115, 116, 32, 101, 110, 32, 108, 111, 110, 103, 32, 123, 48, 125, 123, 49, 125, 32, 123, 48, 125, 123, 49, 125, 32, 123, 48, 125, 123, 49, 125, 32, 123, 48, 125, 123, 49, 125]
set_option maxRecDepth 100000 in
theorem load_bad4 : (loadB tBad4).1 = 2 ∧ (loadB tBad4).2.1 = 10 := by decide +kernel
abbrev cKnown : List Bs := [[101, 110], wRoot]
theorem join_k0 : joinP fKnown (widthsB wLong) cKnown [[97], [98]] = ([97, 32, 97, 110, 100, 32, 98], true) := by decide +kernel
theorem join_k1 : joinP fKnown (widthsB wLong) cKnown [[97], [98], [99], [100]] = ([83, 97, 46, 77, 98, 44, 69, 99, 32, 38, 32, 100], true) := by decide +kernel
theorem join_k2 : joinP fKnown (widthsB wNarrow) cKnown [[97], [98]] = ([98, 43, 97], true) := by decide +kernel
theorem join_k3 : joinP fKnown (widthsB wLong) cKnown [[122]] = ([122], true) := by decide +kernel
theorem join_k4 : joinP fKnown (widthsB wLong) [] [] = ([], true) := by decide +kernel
theorem join_k5 : joinP fKnown (widthsB wLong) [[101, 110]] [[97], [98]] = ([], false) := by decide +kernel
theorem join_k6 : joinP fKnown (widthsB wLong) [[101, 110]] [[97]] = ([97], true) := by decide +kernel
theorem find_k : findP fKnown (widthsB wLong) cKnown = some [[123, 48, 125, 32, 97, 110, 100, 32, 123, 49, 125], [83, 123, 48, 125, 46, 123, 49, 125], [77, 123, 48, 125, 44, 123, 49, 125], [69, 123, 48, 125, 32, 38, 32, 123, 49, 125]] := by decide +kernel
theorem load25_at (s : ByteArray) (t : Bs) (hs : s = ofL t) (x : Int × Int × PL) (hx : loadB t = x) (w : World) (hG : Glob w) :
    Calls Tryd.prog 53 #[.string s] w fun e w' => LoadsAt w' e (encR x) ∧ Below w.heap.size w w' := by
  subst hs
  exact load25_any t x hx w hG
set_option maxHeartbeats 2000000 in
theorem refused25_any (s : ByteArray) (t : Bs) (hs : s = ofL t) (n f : Int) (hx : (loadB t).1 = n ∧ (loadB t).2.1 = f) (hf : f ≠ 0) (w : World) (hG : Glob w) :
    Calls Tryd.prog 56 #[.string s, .int .i64 n, .int .i64 f] w fun e w' => e = .returned (.bool true) ∧ Below w.heap.size w w' := by
  subst hs
  have HG := Aside0.mk hG
  have HX := Aside0.mk hx
  have HF := Aside0.mk hf
  clear hG hx hf
  go_enter Tryd.func56, Tryd.ntmps56
  go_wp2_with fail
  refine (load25_any t _ rfl w HG.out).mono ?_
  rintro e w1 ⟨hL0, hb⟩
  have HB := Aside0.mk hb
  have hx := HX.out
  have hf := HF.out
  clear hb
  rcases hL0 with ⟨h1, _⟩ | ⟨_, rfl⟩
  · exact absurd (hx.2.symm.trans h1) hf
  · have e1 : (encR (loadB t)).1 = n := hx.1
    have e2 : (encR (loadB t)).2.1 = f := hx.2
    rw [e1, e2]
    clear e1 e2 hx hf
    go_wp2_with fail
    go_ret
    exact ⟨rfl, HB.out⟩
theorem texts_loop25 (l : List ByteArray) (hl : l.length < 1000000000000) : ∀ (d i : Nat), i + d = l.length → Ev (fun k => cubitlaw25_texts.l0 k l l (i : Int)) true
  | 0, i, hd => by
    apply Ev.step (f := fun _ => some true)
    · intro k
      simp only [cubitlaw25_texts.l0]
      rw [if_neg (by omega)]
    · exact Ev.now _
  | d + 1, i, hd => by
    apply Ev.step (f := fun k => cubitlaw25_texts.l0 k l l ((i + 1 : Nat) : Int))
    · intro k
      simp only [cubitlaw25_texts.l0]
      rw [if_pos (by omega), if_pos (by omega), if_pos (by omega), if_pos trivial, wrap_nat (by omega)]
    · exact texts_loop25 l hl d (i + 1) (by omega)
theorem texts25_ev (l : List ByteArray) (hl : l.length < 1000000000000) : Ev (fun k => cubitlaw25_texts.f k l l) true := by
  refine Ev.congr (fun k => ?_) (texts_loop25 l hl l.length 0 (by omega))
  unfold cubitlaw25_texts.f
  rw [if_pos rfl]
  rfl
abbrev lKnown : List Bs := [[123, 48, 125, 32, 97, 110, 100, 32, 123, 49, 125], [83, 123, 48, 125, 46, 123, 49, 125], [77, 123, 48, 125, 44, 123, 49, 125], [69, 123, 48, 125, 32, 38, 32, 123, 49, 125]]
theorem textsK_any (A0 A1 : Option Addr) (c0 c1 : Nat) (w : World) (h0 : Kd.C Kd.string w A0 4 (lKnown.map ofL)) (hc0 : 4 ≤ c0) (h1 : Kd.C Kd.string w A1 4 (lKnown.map ofL)) (hc1 : 4 ≤ c1) (hG : Glob w) :
    Calls Tryd.prog 57 #[.slice A0 4 c0, .slice A1 4 c1] w fun e w' => e = .returned (.bool true) ∧ Below w.heap.size w w' := by
  obtain ⟨k, hk⟩ := Ev.rounds (texts25_ev (lKnown.map ofL) (by decide))
  refine (cubitlaw25_texts.calls k A0 c0 (lKnown.map ofL) A1 c1 (lKnown.map ofL) true w h0 hc0 h1 hc1 hk hG).mono ?_
  rintro e w' ⟨rfl, ⟨n, rfl⟩⟩
  exact ⟨rfl, pw_below_drewN (Below.refl _ _) n⟩
set_option maxHeartbeats 8000000 in
set_option maxRecDepth 100000 in
theorem JoinKnown_any (w : World) (hG : Glob w) : Calls Tryd.prog 15 #[] w fun e w' => e = .returned (.bool true) ∧ Below w.heap.size w w' := by
  have HG := Aside0.mk hG
  clear hG
  go_enter Tryd.func15, Tryd.ntmps15
  simp only [List.append]
  go_wp2_with fail
  refine (awake25_any w HG.out).mono ?_
  rintro e w1 ⟨rfl, hb⟩
  have HB := Aside0.mk hb
  clear hb
  go_wp2_with fail
  refine (load25_at _ tKnown (by rfl) _ load_known w1 (HG.out.below HB.out)).mono ?_
  rintro e w2 ⟨hL0, hb⟩
  obtain ⟨B, M, n, rfl, hL⟩ := loads_ok hL0
  clear hL0
  replace HB := Aside0.mk (below_step HB.out hb)
  have HL := Aside0.mk hL
  clear hL hb
  have HC : Aside0 (Kd.C Kd.string (w2.alloc (.cells #[.string ⟨#[101, 110]⟩, .string ⟨#[114, 111, 111, 116]⟩] 9)) (some ⟨w2.heap.size, 0, none⟩) 2 (cKnown.map ofL)) := ⟨litS w2 _ rfl cKnown (by decide)⟩
  replace HB := Aside0.mk (below_alloc HB.out (.cells #[.string ⟨#[101, 110]⟩, .string ⟨#[114, 111, 111, 116]⟩] 9))
  replace HL := Aside0.mk (HL.out.below (below_alloc (Below.refl _ _) (.cells #[.string ⟨#[101, 110]⟩, .string ⟨#[114, 111, 111, 116]⟩] 9)))
  go_wp2_with fail
  refine (joinN_any (l := [[97], [98]]) 2 rfl B M n fKnown _ _ _ _ cKnown wLong _ ((HG.out.below HB.out).below (below_alloc (Below.refl _ _) _)) (HL.out.below (below_alloc (Below.refl _ _) _)) (Kd.C_alloc HC.out _) (Nat.le_refl _) (litS _ _ (by simp) [[97], [98]] (by decide)) (Nat.le_refl _) (by decide) four_known (by decide) (by decide) _ join_k0).mono ?_
  rintro e v0 ⟨rfl, hb⟩
  replace HL := Aside0.mk ((HL.out.below (below_alloc (Below.refl _ _) _)).below hb)
  replace HC := Aside0.mk (Kd.C_below (Kd.C_below HC.out (below_alloc (Below.refl _ _) _)) hb)
  replace HB := Aside0.mk (below_step (below_step HB.out (below_alloc (Below.refl _ _) _)) hb)
  clear hb
  go_wp2_with fail
  refine (joinN_any (l := [[97], [98], [99], [100]]) 4 rfl B M n fKnown _ _ _ _ cKnown wLong _ ((HG.out.below HB.out).below (below_alloc (Below.refl _ _) _)) (HL.out.below (below_alloc (Below.refl _ _) _)) (Kd.C_alloc HC.out _) (Nat.le_refl _) (litS _ _ (by simp) [[97], [98], [99], [100]] (by decide)) (Nat.le_refl _) (by decide) four_known (by decide) (by decide) _ join_k1).mono ?_
  rintro e v1 ⟨rfl, hb⟩
  replace HL := Aside0.mk ((HL.out.below (below_alloc (Below.refl _ _) _)).below hb)
  replace HC := Aside0.mk (Kd.C_below (Kd.C_below HC.out (below_alloc (Below.refl _ _) _)) hb)
  replace HB := Aside0.mk (below_step (below_step HB.out (below_alloc (Below.refl _ _) _)) hb)
  clear hb
  go_wp2_with fail
  refine (joinN_any (l := [[97], [98]]) 2 rfl B M n fKnown _ _ _ _ cKnown wNarrow _ ((HG.out.below HB.out).below (below_alloc (Below.refl _ _) _)) (HL.out.below (below_alloc (Below.refl _ _) _)) (Kd.C_alloc HC.out _) (Nat.le_refl _) (litS _ _ (by simp) [[97], [98]] (by decide)) (Nat.le_refl _) (by decide) four_known (by decide) (by decide) _ join_k2).mono ?_
  rintro e v2 ⟨rfl, hb⟩
  replace HL := Aside0.mk ((HL.out.below (below_alloc (Below.refl _ _) _)).below hb)
  replace HC := Aside0.mk (Kd.C_below (Kd.C_below HC.out (below_alloc (Below.refl _ _) _)) hb)
  replace HB := Aside0.mk (below_step (below_step HB.out (below_alloc (Below.refl _ _) _)) hb)
  clear hb
  go_wp2_with fail
  refine (joinN_any (l := [[122]]) 1 rfl B M n fKnown _ _ _ _ cKnown wLong _ ((HG.out.below HB.out).below (below_alloc (Below.refl _ _) _)) (HL.out.below (below_alloc (Below.refl _ _) _)) (Kd.C_alloc HC.out _) (Nat.le_refl _) (litS _ _ (by simp) [[122]] (by decide)) (Nat.le_refl _) (by decide) four_known (by decide) (by decide) _ join_k3).mono ?_
  rintro e v3 ⟨rfl, hb⟩
  replace HL := Aside0.mk ((HL.out.below (below_alloc (Below.refl _ _) _)).below hb)
  replace HC := Aside0.mk (Kd.C_below (Kd.C_below HC.out (below_alloc (Below.refl _ _) _)) hb)
  replace HB := Aside0.mk (below_step (below_step HB.out (below_alloc (Below.refl _ _) _)) hb)
  clear hb
  go_wp2_with fail
  refine (joinN_any (l := []) 0 rfl B M n fKnown _ _ _ _ [] wLong _ ((HG.out.below HB.out).below (Below.refl _ _)) (HL.out.below (Below.refl _ _)) (Kd.C_nil _ _) (Nat.le_refl _) (Kd.C_nil _ _) (Nat.le_refl _) (by decide) four_known (by decide) (by decide) _ join_k4).mono ?_
  rintro e v4 ⟨rfl, hb⟩
  replace HL := Aside0.mk ((HL.out.below (Below.refl _ _)).below hb)
  replace HC := Aside0.mk (Kd.C_below (Kd.C_below HC.out (Below.refl _ _)) hb)
  replace HB := Aside0.mk (below_step (below_step HB.out (Below.refl _ _)) hb)
  clear hb
  go_wp2_with fail
  refine (joinN_any (l := [[97], [98]]) 2 rfl B M n fKnown _ _ _ _ [[101, 110]] wLong _ ((HG.out.below HB.out).below (below_alloc (below_alloc (Below.refl _ _) _) _)) (HL.out.below (below_alloc (below_alloc (Below.refl _ _) _) _)) (Kd.C_alloc (litS v4 _ (by simp) [[101, 110]] (by decide)) _) (Nat.le_refl _) (litS _ _ (by simp) [[97], [98]] (by decide)) (Nat.le_refl _) (by decide) four_known (by decide) (by decide) _ join_k5).mono ?_
  rintro e v5 ⟨rfl, hb⟩
  replace HL := Aside0.mk ((HL.out.below (below_alloc (below_alloc (Below.refl _ _) _) _)).below hb)
  replace HC := Aside0.mk (Kd.C_below (Kd.C_below HC.out (below_alloc (below_alloc (Below.refl _ _) _) _)) hb)
  replace HB := Aside0.mk (below_step (below_step HB.out (below_alloc (below_alloc (Below.refl _ _) _) _)) hb)
  clear hb
  go_wp2_with fail
  refine (joinN_any (l := [[97]]) 1 rfl B M n fKnown _ _ _ _ [[101, 110]] wLong _ ((HG.out.below HB.out).below (below_alloc (below_alloc (Below.refl _ _) _) _)) (HL.out.below (below_alloc (below_alloc (Below.refl _ _) _) _)) (Kd.C_alloc (litS v5 _ (by simp) [[101, 110]] (by decide)) _) (Nat.le_refl _) (litS _ _ (by simp) [[97]] (by decide)) (Nat.le_refl _) (by decide) four_known (by decide) (by decide) _ join_k6).mono ?_
  rintro e v6 ⟨rfl, hb⟩
  replace HL := Aside0.mk ((HL.out.below (below_alloc (below_alloc (Below.refl _ _) _) _)).below hb)
  replace HC := Aside0.mk (Kd.C_below (Kd.C_below HC.out (below_alloc (below_alloc (Below.refl _ _) _) _)) hb)
  replace HB := Aside0.mk (below_step (below_step HB.out (below_alloc (below_alloc (Below.refl _ _) _) _)) hb)
  clear hb
  go_wp2_with fail
  refine (findP_any B M n fKnown _ 2 cKnown wLong _ (HG.out.below HB.out) HL.out HC.out (Nat.le_refl _) (by decide) four_known _ find_k).mono ?_
  rintro e v7 ⟨⟨vf, rfl, hRf⟩, hb⟩
  obtain ⟨A7, c7, rfl, hc7, hC7⟩ := Kd.R_reads hRf
  have hf4 : 4 ≤ c7 := hc7
  have HF7 : Aside0 (Kd.C Kd.string v7 A7 4 (lKnown.map ofL)) := ⟨hC7⟩
  replace HB := Aside0.mk (below_step HB.out hb)
  clear hb hRf hC7 hc7 HL HC
  go_wp2_with fail
  refine (refused25_any _ tBad0 (by rfl) 1 2 load_bad0 (by decide) _ (HG.out.below HB.out)).mono ?_
  rintro e u0 ⟨rfl, hb⟩
  replace HF7 := Aside0.mk (Kd.C_below HF7.out hb)
  replace HB := Aside0.mk (below_step HB.out hb)
  clear hb
  go_wp2_with fail
  refine (refused25_any _ tBad1 (by rfl) 1 2 load_bad1 (by decide) _ (HG.out.below HB.out)).mono ?_
  rintro e u1 ⟨rfl, hb⟩
  replace HF7 := Aside0.mk (Kd.C_below HF7.out hb)
  replace HB := Aside0.mk (below_step HB.out hb)
  clear hb
  go_wp2_with fail
  refine (refused25_any _ tBad2 (by rfl) 1 2 load_bad2 (by decide) _ (HG.out.below HB.out)).mono ?_
  rintro e u2 ⟨rfl, hb⟩
  replace HF7 := Aside0.mk (Kd.C_below HF7.out hb)
  replace HB := Aside0.mk (below_step HB.out hb)
  clear hb
  go_wp2_with fail
  refine (refused25_any _ tBad3 (by rfl) 1 2 load_bad3 (by decide) _ (HG.out.below HB.out)).mono ?_
  rintro e u3 ⟨rfl, hb⟩
  replace HF7 := Aside0.mk (Kd.C_below HF7.out hb)
  replace HB := Aside0.mk (below_step HB.out hb)
  clear hb
  go_wp2_with fail
  refine (refused25_any _ tBad4 (by rfl) 2 10 load_bad4 (by decide) _ (HG.out.below HB.out)).mono ?_
  rintro e u4 ⟨rfl, hb⟩
  replace HF7 := Aside0.mk (Kd.C_below HF7.out hb)
  replace HB := Aside0.mk (below_step HB.out hb)
  clear hb
  have tl : ∀ l, (ofL l).toList = l := ofL_toList
  go_wp2_with fail
  refine (textsK_any _ _ c7 4 _ (Kd.C_alloc HF7.out _) hf4 (litS u4 _ rfl lKnown (by decide)) (Nat.le_refl _) ((HG.out.below HB.out).alloc _)).mono ?_
  rintro e u5 ⟨rfl, hb⟩
  replace HB := Aside0.mk (below_step (below_alloc HB.out _) hb)
  clear hb
  go_wp2_with fail
  go_ret
  exact ⟨rfl, HB.out⟩
end Go.Proofs.YthefdpioaapomaaDoor.Pj
