/- cubitlaw25.load, awake, refused, walked by hand. -/
import Derived.Test.YthefdpioaapomaaDoorPj
import Derived.Test.YthefdpioaapomaaDoorLq7
import Derived.Test.YthefdpioaapomaaDoorPA1
import Derived.WalkSpells
import Derived.WalkLawsBesides
namespace Go.Proofs.YthefdpioaapomaaDoor.Pj
set_option linter.unusedVariables false
set_option linter.unusedSimpArgs false
open Go.RowKit Go.Proofs.YthefdpioaapomaaDoorW.PrintWords Go.Proofs.YthefdpioaapomaaDoorW.PrintLast Go.Proofs.YthefdpioaapomaaDoor.Ext Go.Proofs.YthefdpioaapomaaDoorW.PrintMore Go.Proofs.YthefdpioaapomaaDoor.PA Go.Proofs.YthefdpioaapomaaDoor.PJ Go.Proofs.YthefdpioaapomaaDoor.Pl Go.Proofs.YthefdpioaapomaaDoor.Pu7

/-- Words of what is read are no longer than the text. -/
theorem parseGo_short (m : Nat) : ∀ (ls : List Bs) (i : Nat) (out : List Row), (∀ l ∈ ls, l.length ≤ m) → (∀ r ∈ out, ∀ s ∈ r.ws, s.length ≤ m) → ∀ r ∈ (parseGo ls i out).1, ∀ s ∈ r.ws, s.length ≤ m
  | [], i, out, _, ho => ho
  | l :: ls, i, out, hl, ho => by
    rw [parseGo]
    split
    · intro r hr; cases hr
    · split
      · exact parseGo_short m ls _ _ (fun x hx => hl x (List.mem_cons_of_mem _ hx)) ho
      · split
        · intro r hr; cases hr
        · refine parseGo_short m ls _ _ (fun x hx => hl x (List.mem_cons_of_mem _ hx)) (fun r hr s hs => ?_)
          rcases List.mem_append.1 hr with hr | hr
          · exact ho r hr s hs
          · obtain rfl := List.mem_singleton.1 hr
            have h1 := (wordsOf_mem hs).1
            have h2 := splitC_word_len 32 l s h1
            have := hl l List.mem_cons_self
            omega
theorem parseB_short (t : Bs) : ∀ r ∈ (parseB t).1, ∀ s ∈ r.ws, s.length ≤ 65536 := by
  unfold parseB
  split
  · intro r hr; cases hr
  · rename_i h
    exact parseGo_short 65536 _ _ _ (fun l hl => by have := splitC_word_len 10 t l hl; omega) (fun r hr => by cases hr)
theorem four_loadB {t : Bs} (m : Nat) (h : t.length ≤ m) : FourP m (loadB t).2.2 := by
  unfold loadB
  split
  · refine loadP_four _ _ (fun f hf => by cases hf) (fun r hr => ?_)
    have hr' := (List.mem_filter.1 hr).1
    unfold parseB at hr'
    split at hr'
    · cases hr'
    · exact parseGo_short m _ _ _ (fun l hl => by have := splitC_word_len 10 t l hl; omega) (fun r hr => by cases hr) r hr'
  · intro f hf; cases hf
set_option maxHeartbeats 2000000 in
set_option maxRecDepth 100000 in
theorem load25_any (t : Bs) (x : Int × Int × PL) (hx : loadB t = x) (w : World) (hG : Glob w) :
    Calls Tryd.prog 53 #[.string (ofL t)] w fun e w' => LoadsAt w' e (encR x) ∧ Below w.heap.size w w' := by
  obtain ⟨k, hk⟩ := Ev.rounds (parse_ev t)
  have hsp := parseB_spec t
  have hsh := parseB_short t
  obtain ⟨y, hy⟩ : ∃ y, y = parseB t := ⟨_, rfl⟩
  unfold loadB at hx
  rw [← hy] at hk hsp hsh hx
  obtain ⟨rs, line, er⟩ := y
  clear hy
  have HK := Aside0.mk hk
  have HG := Aside0.mk hG
  have HSP := Aside0.mk hsp
  have HSH := Aside0.mk hsh
  dsimp only at hx
  replace hk : rows_Parse.f k (ofL t) = some (rs.map t31, line, er) := hk
  have HX := Aside0.mk hx
  clear hk hG hsp hsh hx
  go_enter Tryd.func53, Tryd.ntmps53
  go_wp2_with fail
  refine (rows_Parse.calls k (ofL t) (rs.map t31) line er w HK.out HG.out).mono ?_
  rintro e w1 ⟨v, rfl, hS, hb⟩
  obtain ⟨A, c, hv, hc, hC⟩ := Kd.S_reads hS
  rw [List.length_map] at hv hc hC
  subst hv
  have HC := Aside0.mk hC
  have HB := Aside0.mk hb
  have hm : rs.length ≤ 9223372036854775807 := hC.2.1
  have HHc := Aside0.mk hc
  clear hS hb hC hc
  by_cases h0 : er = 0
  · subst h0
    have hX := HX.out
    rw [if_pos rfl] at hX
    have HX2 := Aside0.mk hX
    clear hX
    have hg : rs.length ≤ 2000 ∧ ∀ r ∈ rs, Go.Proofs.YthefdpioaapomaaDoor.Pu7.Good r := by
      rcases HSP.out with h | h
      · exact ⟨h.2.2.1, h.2.2.2.1⟩
      · exact absurd rfl h.1
    obtain ⟨k2, hk2⟩ := Ev.rounds (of_ev wList rs (by omega) (fun r hr => ⟨(hg.2 r hr).1, (hg.2 r hr).lt⟩))
    have HK2 := Aside0.mk hk2
    have HGd := Aside0.mk hg
    clear hk2 hg
    go_wp2_with fail
    refine (loadP_any k2 rs A c _ (HG.out.below HB.out) HC.out HHc.out (by have := HGd.out.1; omega) (fun r hr s hs => by have := HSH.out r hr s hs; omega) HK2.out).mono ?_
    rintro e w2 ⟨hL, hb2⟩
    have HB2 := Aside0.mk (below_step HB.out hb2)
    rw [HX2.out] at hL
    rcases hL with ⟨h1, B, M, n, rfl, hL⟩ | ⟨h1, rfl⟩
    · have HL := Aside0.mk hL
      have H1 := Aside0.mk h1
      clear hL h1 hb2
      go_wp2_with fail
      go_ret3
      exact ⟨.inl ⟨H1.out, B, M, n, rfl, HL.out⟩, HB2.out⟩
    · have H1 := Aside0.mk h1
      clear h1 hb2
      go_wp2_with fail
      go_ret3
      exact ⟨.inr ⟨H1.out, rfl⟩, HB2.out⟩
  · have hX := HX.out
    rw [if_neg h0] at hX
    have HX2 := Aside0.mk hX
    clear hX
    have f1 : (er == 0) = false := beq_eq_false_iff_ne.2 h0
    have f2 : (er != 0) = true := bne_iff_ne.2 h0
    go_wp2_with fail
    go_ret3
    exact ⟨by rw [← HX2.out]; exact .inr ⟨h0, rfl⟩, HB.out⟩
/-! awake -/
def tAwake : Bs := [108, 105, 115, 116, 32, 101, 110, 32, 108, 111, 110, 103, 32, 123, 48, 125, 44, 95, 123, 49, 125, 32, 123, 48, 125, 44, 95, 123, 49, 125, 32, 123, 48, 125, 44, 95, 123, 49, 125, 32, 123, 48, 125, 44, 95, 123, 49, 125]
def fAwake : PL := [(([101, 110], wLong), [[123, 48, 125, 44, 32, 123, 49, 125], [123, 48, 125, 44, 32, 123, 49, 125], [123, 48, 125, 44, 32, 123, 49, 125], [123, 48, 125, 44, 32, 123, 49, 125]])]
set_option maxRecDepth 100000 in
theorem load_awake : loadB tAwake = (0, 0, fAwake) := by decide +kernel
theorem join_awake : joinP fAwake (widthsB wLong) [[101, 110]] [[97], [98], [99]] = ([97, 44, 32, 98, 44, 32, 99], true) := by decide +kernel
theorem litS (w : World) (z : Nat) (hz : w.heap.size = z) (xs : List Bs) (hm : xs.length ≤ 9223372036854775807) : Kd.C Kd.string (w.alloc (.cells ((xs.map ofL).map Value.string).toArray 9)) (some ⟨z, 0, none⟩) xs.length (xs.map ofL) := by
  subst hz
  have h := litM w (xs.map ofL) (by rw [List.length_map]; exact hm)
  rw [List.length_map] at h
  exact h
/-- What was loaded, and no error. -/
theorem loads_ok {w : World} {e : Ending} {fs : PL} (h : LoadsAt w e (encR (0, 0, fs))) : ∃ B M n, e = .returned (.tuple #[.pointer (some ⟨B, 0, none⟩), .int .i64 0, .int .i64 0]) ∧ ListsAt w B M n (encP fs) := by
  rcases h with ⟨_, h⟩ | ⟨h, _⟩
  · exact h
  · exact absurd rfl h
/-- Join, the row's length under a letter of its own. -/
theorem joinN_any (nl : Nat) {l : List Bs} (hn : nl = l.length) (B M n : Nat) (fs : PL) (A A3 : Option Addr) (c c3 : Nat) (chain : List Bs) (s : Bs) (w : World) (hG : Glob w) (hL : ListsAt w B M n (encP fs)) (hC : Kd.C Kd.string w A chain.length (chain.map ofL)) (hc : chain.length ≤ c) (hC3 : Kd.C Kd.string w A3 l.length (l.map ofL)) (hc3 : nl ≤ c3)
    (hch : ∀ a ∈ chain, a.length ≤ maxLen) (hfs : FourP 120 fs) (hl8 : nl ≤ 8) (hl30 : ∀ x ∈ l, x.length ≤ 30) (r : Bs × Bool) (hr : joinP fs (widthsB s) chain l = r) :
    Calls Tryd.prog 54 #[.pointer (some ⟨B, 0, none⟩), .slice A chain.length c, .string (ofL s), .slice A3 nl c3] w fun e w' => e = .returned (.tuple #[.string (ofL r.1), .bool r.2]) ∧ Below w.heap.size w w' := by
  subst hn
  subst hr
  exact joinP_any B M n fs A A3 c c3 chain l s w hG hL hC hc hC3 hc3 hch hfs hl8 hl30
theorem four_awake : FourP 120 fAwake := by unfold FourP fAwake; decide
set_option maxHeartbeats 2000000 in
set_option maxRecDepth 100000 in
theorem awake25_any (w : World) (hG : Glob w) : Calls Tryd.prog 52 #[] w fun e w' => e = .returned (.bool true) ∧ Below w.heap.size w w' := by
  have HG := Aside0.mk hG
  clear hG
  go_enter Tryd.func52, Tryd.ntmps52
  go_wp2_with fail
  refine (load25_any tAwake _ load_awake w HG.out).mono ?_
  rintro e w1 ⟨hL0, hb⟩
  obtain ⟨B, M, n, rfl, hL⟩ := loads_ok hL0
  clear hL0
  have HL := Aside0.mk hL
  have HB := Aside0.mk hb
  clear hL hb
  go_wp2_with fail
  have hbA : Below w1.heap.size w1 ((w1.alloc (.cells #[.string ⟨#[101, 110]⟩] 9)).alloc (.cells #[.string ⟨#[97]⟩, .string ⟨#[98]⟩, .string ⟨#[99]⟩] 9)) := below_alloc (below_alloc (Below.refl _ _) _) _
  refine (joinP_any B M n fAwake _ _ _ _ [[101, 110]] [[97], [98], [99]] wLong _ ((HG.out.below HB.out).below hbA) (HL.out.below hbA) (Kd.C_alloc (litS w1 _ rfl [[101, 110]] (by decide)) _) (Nat.le_refl _) (litS _ _ (by simp) [[97], [98], [99]] (by decide)) (Nat.le_refl _) (by decide) four_awake (by decide) (by decide)).mono ?_
  rw [join_awake]
  rintro e w2 ⟨rfl, hb2⟩
  have HB2 := Aside0.mk (below_step (below_step HB.out hbA) hb2)
  clear hb2 hbA
  go_wp2_with fail
  go_ret
  exact ⟨by simp only [ofL_toList]; rfl, HB2.out⟩
end Go.Proofs.YthefdpioaapomaaDoor.Pj
