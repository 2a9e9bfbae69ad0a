/- cubitlaw22.load and awake, walked by hand. -/
import Derived.Test.YthefdpioaapomaaGreatDoorPs
import Derived.Test.YthefdpioaapomaaGreatDoorExtF
import Derived.WalkSpells
import Derived.WalkLawsBesides
namespace Go.Proofs.YthefdpioaapomaaGreatDoor.Pz
set_option linter.unusedVariables false
set_option linter.unusedSimpArgs false
open Go.RowKit Go.Proofs.YthefdpioaapomaaGreatDoorW.PrintWords Go.Proofs.YthefdpioaapomaaGreatDoorW.PrintLast Go.Proofs.YthefdpioaapomaaGreatDoor.Ext Go.Proofs.YthefdpioaapomaaGreatDoorW.PrintMore Go.Proofs.YthefdpioaapomaaGreatDoor.PA Go.Proofs.YthefdpioaapomaaGreatDoor.Pl

theorem parseGo_count : ∀ (ls : List Bs) (i : Nat) (out : List Row), out.length ≤ 2000 → (parseGo ls i out).1.length ≤ 2000
  | [], i, out, h => h
  | l :: ls, i, out, h => by
    rw [parseGo]
    split
    · exact Nat.zero_le _
    · split
      · exact parseGo_count ls _ _ h
      · split
        · exact Nat.zero_le _
        · rename_i h2
          exact parseGo_count ls _ _ (by rw [List.length_append, List.length_singleton]; omega)
theorem parseB_count (t : Bs) : (parseB t).1.length ≤ 2000 := by
  unfold parseB
  split
  · exact Nat.zero_le _
  · exact parseGo_count _ _ _ (Nat.zero_le _)
/-- What a text's words are. -/
noncomputable def loadZ (t : Bs) : Int × Int × StW := if (parseB t).2.2 = 0 then loadW ((parseB t).1.map t31) ([], []) else (0, (parseB t).2.2, ([], []))
def loadB (t : Bs) : Option (Int × Int × PSt) := if (parseB t).2.2 = 0 then loadP (parseB t).1 ([], []) else some (0, (parseB t).2.2, ([], []))
theorem loadB_Z {t : Bs} {r : Int × Int × PSt} (h : loadB t = some r) : loadZ t = (r.1, r.2.1, encSt r.2.2) := by
  unfold loadB at h
  unfold loadZ
  split at h
  · rename_i h0
    rw [if_pos h0]
    exact loadW_ofL _ ([], []) r (fun x hx s hs => by have := parseB_short t x hx s hs; omega) h
  · rename_i h0
    rw [if_neg h0]
    obtain rfl := Option.some.inj h
    rfl
set_option maxHeartbeats 2000000 in
set_option maxRecDepth 100000 in
theorem load22_any (s : ByteArray) (t : Bs) (hs : s = ofL t) (x : Int × Int × StW) (hx : loadZ t = x) (w : World) (hG : Glob w) :
    Calls Tryz.prog 9 #[.string s] w fun e w' => LoadedAt w' e x ∧ Below w.heap.size w w' := by
  subst hs
  obtain ⟨k, hk⟩ := Ev.rounds (parse_ev t)
  have hct := parseB_count t
  have hsh := parseB_short t
  obtain ⟨y, hy⟩ : ∃ y, y = parseB t := ⟨_, rfl⟩
  unfold loadZ at hx
  rw [← hy] at hk hct hsh hx
  obtain ⟨rs, line, er⟩ := y
  clear hy
  dsimp only at hx hct hsh
  replace hk : rows_Parse.f k (ofL t) = some (rs.map t31, line, er) := hk
  have HX := Aside0.mk hx
  have HK := Aside0.mk hk
  have HG := Aside0.mk hG
  have HCt := Aside0.mk hct
  have HSH := Aside0.mk hsh
  clear hk hG hct hsh hx
  go_enter Tryz.func9, Tryz.ntmps9
  go_wp2_with fail
  refine (rows_Parse.calls k (ofL t) (rs.map t31) line er w HK.out HG.out).mono ?_
  rintro e w1 ⟨v, rfl, hS, hb⟩
  obtain ⟨A, c, hv, hc, hC⟩ := Kd.S_reads hS
  rw [List.length_map] at hv hc
  subst hv
  have HC := Aside0.mk hC
  have HB := Aside0.mk hb
  have hl : (rs.map t31).length = rs.length := List.length_map _
  have hm : rs.length ≤ 9223372036854775807 := by rw [← hl]; exact hC.2.1
  have HHc := Aside0.mk hc
  have HLn := Aside0.mk hl
  clear hS hb hC hc hl
  by_cases h0 : er = 0
  · subst h0
    have hX := HX.out
    rw [if_pos rfl] at hX
    have HX2 := Aside0.mk hX
    clear hX
    go_wp2_with fail
    have h := loadW_any (rs.map t31) A c _ (HG.out.below HB.out) HC.out (by rw [HLn.out]; exact HHc.out) (by rw [HLn.out]; have := HCt.out; omega) (fun r hr s hs => by
      obtain ⟨r0, hr0, rfl⟩ := List.mem_map.1 hr
      obtain ⟨s0, hs0, rfl⟩ := List.mem_map.1 hs
      exact textOk s0 (by have := HSH.out r0 hr0 s0 hs0; omega))
    rw [HLn.out] at h
    refine h.mono ?_
    rintro e w2 ⟨hL, hb2⟩
    have HB2 := Aside0.mk (below_step HB.out hb2)
    rw [HX2.out] at hL
    rcases hL with ⟨h1, B, M, Q, n, rfl, hL⟩ | ⟨h1, rfl⟩
    · have HL := Aside0.mk hL
      have H1 := Aside0.mk h1
      clear hL h1 hb2 h
      go_wp2_with fail
      go_ret3
      exact ⟨.inl ⟨H1.out, B, M, Q, n, rfl, HL.out⟩, HB2.out⟩
    · have H1 := Aside0.mk h1
      clear h1 hb2 h
      go_wp2_with fail
      go_ret3
      exact ⟨.inr ⟨H1.out, rfl⟩, HB2.out⟩
  · have hX := HX.out
    rw [if_neg h0] at hX
    have HX2 := Aside0.mk hX
    clear hX
    have f1 : (er == 0) = false := beq_eq_false_iff_ne.2 h0
    have f2 : (er != 0) = true := bne_iff_ne.2 h0
    go_wp2_with fail
    go_ret3
    exact ⟨by rw [← HX2.out]; exact .inr ⟨h0, rfl⟩, HB.out⟩
theorem loaded_ok {w : World} {e : Ending} {x : StW} (h : LoadedAt w e (0, 0, x)) : ∃ B M Q n, e = .returned (.tuple #[.pointer (some ⟨B, 0, none⟩), .int .i64 0, .int .i64 0]) ∧ WordsAt w B M Q n x.1 x.2 := by
  rcases h with ⟨_, h⟩ | ⟨h, _⟩
  · exact h
  · exact absurd rfl h
theorem litS (w : World) (z : Nat) (hz : w.heap.size = z) (xs : List Bs) (hm : xs.length ≤ 9223372036854775807) : Kd.C Kd.string (w.alloc (.cells ((xs.map ofL).map Value.string).toArray 9)) (some ⟨z, 0, none⟩) xs.length (xs.map ofL) := by
  subst hz
  have h := litK w (xs.map ofL) (by rw [List.length_map]; exact hm)
  rw [List.length_map] at h
  exact h
/-- A Find of a closed key. -/
theorem find22_any (B M Q n : Nat) (ks : PKs) (ps : PPs) (kd la wd nm ct ca : Bs) (full : List Bs) (w : World) (hG : Glob w) (hL : WordsAt w B M Q n (encKs ks) (encPs ps)) (hs : kd.length ≤ 1000 ∧ la.length ≤ 1000 ∧ wd.length ≤ 1000 ∧ nm.length ≤ 1000 ∧ ct.length ≤ 1000 ∧ ca.length ≤ 1000)
    (hE : chainF ps 100 la = some full) (hf : full.length ≤ 100000) (hp : ∀ e ∈ ps, e.2.length ≤ 1000) (hfs : ∀ a ∈ full, a.length ≤ 1000) (r : Option Bs) (hr : findP1 ks kd nm (catsB kd ct) [ca, []] (widthsB wd) full = r) :
    Calls Tryz.prog 18 #[.pointer (some ⟨B, 0, none⟩), .agg #[.string (ofL kd), .string (ofL la), .string (ofL wd), .string (ofL nm), .string (ofL ct), .string (ofL ca)]] w fun e w' => e = .returned (.tuple #[.string (ofL (r.getD [])), .bool r.isSome]) ∧ Below w.heap.size w w' := by
  subst hr
  have sm : ∀ s : Bs, s.length ≤ 1000 → (ofL s).size ≤ maxLen := fun s h => by rw [ofL_size]; unfold maxLen; omega
  have wsm : ∀ b ∈ widthsB wd, b.length ≤ 1000 := by
    intro b hb
    unfold widthsB at hb
    split at hb
    · simp only [List.mem_cons, List.not_mem_nil, or_false] at hb
      rcases hb with rfl | rfl | rfl <;> decide
    · split at hb
      · simp only [List.mem_cons, List.not_mem_nil, or_false] at hb
        rcases hb with rfl | rfl <;> decide
      · simp only [List.mem_cons, List.not_mem_nil, or_false] at hb
        subst hb
        decide
  have csm : ∀ b ∈ catsB kd ct, b.length ≤ 1000 := by
    intro b hb
    unfold catsB at hb
    split at hb
    · simp only [List.mem_cons, List.not_mem_nil, or_false] at hb
      rcases hb with rfl | rfl
      · exact hs.2.2.2.2.1
      · decide
    · split at hb
      · simp only [List.mem_cons, List.not_mem_nil, or_false] at hb
        rcases hb with rfl | rfl
        · exact hs.2.2.2.2.1
        · decide
      · simp only [List.mem_cons, List.not_mem_nil, or_false] at hb
        subst hb
        exact hs.2.2.2.2.1
  have all : ∀ l : List Bs, (∀ b ∈ l, b.length ≤ 1000) → ∀ a ∈ l.map ofL, a.size ≤ maxLen := fun l h a ha => by
    obtain ⟨b, hb, rfl⟩ := List.mem_map.1 ha
    exact sm b (h b hb)
  have h := findW_any B M Q n (encKs ks) (encPs ps) (ofL kd) (ofL la) (ofL wd) (ofL nm) (ofL ct) (ofL ca) (full.map ofL) _ _ w hG hL ⟨sm _ hs.1, sm _ hs.2.1, sm _ hs.2.2.1, sm _ hs.2.2.2.1, sm _ hs.2.2.2.2.1, sm _ hs.2.2.2.2.2⟩ (chainF_ends ps 100 la full hE) (by rw [List.length_map]; exact hf)
    (fun e he => by obtain ⟨x, hx, rfl⟩ := List.mem_map.1 he; exact sm _ (hp x hx)) (all full hfs) (widths_f wd) (all _ wsm) (cats_f kd la wd nm ct ca) (all _ csm)
  refine h.mono ?_
  rintro e w' ⟨rfl, hb⟩
  have e1 := find1_enc ks kd nm (catsB kd ct) [ca, []] (widthsB wd) full
  have e2 : ([ca, []] : List Bs).map ofL = [ofL ca, (⟨#[]⟩ : ByteArray)] := rfl
  rw [e2] at e1
  rw [e1]
  refine ⟨?_, hb⟩
  unfold foundW
  cases findP1 ks kd nm (catsB kd ct) [ca, []] (widthsB wd) full with
  | none => rfl
  | some x => rfl
/-! awake -/
def tAwake : Bs := [119, 111, 114, 100, 32, 101, 110, 32, 108, 111, 110, 103, 32, 109, 101, 116, 101, 114, 32, 111, 116, 104, 101, 114, 32, 45, 32, 123, 48, 125, 95, 109, 101, 116, 101, 114, 115]
def sAwake : PSt := ([(⟨wWord, [101, 110], wLong, [109, 101, 116, 101, 114], wOther, []⟩, [123, 48, 125, 32, 109, 101, 116, 101, 114, 115])], [])
set_option maxRecDepth 100000 in
theorem load_awake : loadB tAwake = some (0, 0, sAwake) := by kernel_rfl
theorem chain_awake : chainF sAwake.2 100 [101, 110] = some [[101, 110], wRoot] := by decide +kernel
theorem find_awake : findP1 sAwake.1 wWord [109, 101, 116, 101, 114] (catsB wWord [111, 110, 101]) [[120], []] (widthsB wNarrow) [[101, 110], wRoot] = some [123, 48, 125, 32, 109, 101, 116, 101, 114, 115] := by decide +kernel
theorem fill_awake : fillB [ofL [97], ofL [98]] [123, 48, 125, 32, 112, 101, 114, 32, 123, 49, 125] = [97, 32, 112, 101, 114, 32, 98] := by rfl
set_option maxHeartbeats 2000000 in
set_option maxRecDepth 100000 in
theorem awake22_any (w : World) (hG : Glob w) : Calls Tryz.prog 7 #[] w fun e w' => e = .returned (.bool true) ∧ Below w.heap.size w w' := by
  have HG := Aside0.mk hG
  clear hG
  go_enter Tryz.func7, Tryz.ntmps7
  go_wp2_with fail
  refine (load22_any _ tAwake (by rfl) _ (loadB_Z load_awake) w HG.out).mono ?_
  rintro e w1 ⟨hL0, hb⟩
  obtain ⟨B, M, Q, n, rfl, hL⟩ := loaded_ok hL0
  have HL : Aside0 (WordsAt w1 B M Q n (encKs sAwake.1) (encPs sAwake.2)) := ⟨hL⟩
  have HB := Aside0.mk hb
  clear hL0 hL hb
  go_wp2_with fail
  refine (find22_any B M Q n sAwake.1 sAwake.2 wWord [101, 110] wNarrow [109, 101, 116, 101, 114] [111, 110, 101] [120] _ _ (HG.out.below HB.out) HL.out (by decide) chain_awake (by decide) (by decide) (by decide) _ find_awake).mono ?_
  rintro e w2 ⟨rfl, hb2⟩
  have HB2 := Aside0.mk (below_step HB.out hb2)
  clear hb2
  dsimp only [Option.getD_some, Option.isSome_some]
  go_wp2_with fail
  refine (fill_any _ _ 2 [ofL [97], ofL [98]] _ (litS w2 _ rfl [[97], [98]] (by decide)) (Nat.le_refl _) (by decide) (by rw [show (⟨#[123, 48, 125, 32, 112, 101, 114, 32, 123, 49, 125]⟩ : ByteArray).data.toList = [123, 48, 125, 32, 112, 101, 114, 32, 123, 49, 125] from rfl, fill_awake]; decide)).mono ?_
  rintro e w3 ⟨rfl, hb3⟩
  have HB3 := Aside0.mk (below_step (below_alloc HB2.out _) hb3)
  clear hb3
  rw [show (⟨#[123, 48, 125, 32, 112, 101, 114, 32, 123, 49, 125]⟩ : ByteArray).data.toList = [123, 48, 125, 32, 112, 101, 114, 32, 123, 49, 125] from rfl, fill_awake]
  have tl : ∀ l, (ofL l).toList = l := ofL_toList
  have e1 : (⟨([97, 32, 112, 101, 114, 32, 98] : List UInt8).toArray⟩ : ByteArray) = ofL [97, 32, 112, 101, 114, 32, 98] := rfl
  rw [e1]
  clear e1
  go_wp2_with fail
  go_ret
  exact ⟨rfl, HB3.out⟩
end Go.Proofs.YthefdpioaapomaaGreatDoor.Pz
