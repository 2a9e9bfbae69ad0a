/- The statement JoinCommas, walked by hand: it answers true. -/
import Derived.Test.YthefdpioaapomaaDoorLoadJ
namespace Go.Proofs.YthefdpioaapomaaDoor.Pj
set_option linter.unusedVariables false
set_option linter.unusedSimpArgs false
open Go.RowKit Go.Proofs.YthefdpioaapomaaDoorW.PrintWords Go.Proofs.YthefdpioaapomaaDoorW.PrintLast Go.Proofs.YthefdpioaapomaaDoor.Ext Go.Proofs.YthefdpioaapomaaDoorW.PrintMore Go.Proofs.YthefdpioaapomaaDoor.PA Go.Proofs.YthefdpioaapomaaDoor.PJ Go.Proofs.YthefdpioaapomaaDoor.Pl Go.Proofs.YthefdpioaapomaaDoor.Pu7

abbrev tSign (b : UInt8) : Bs := [123, 48, 125, b, 123, 49, 125]
def tCommas (b : UInt8) : Bs := [108, 105, 115, 116, 32, 101, 110, 32, 108, 111, 110, 103, 32] ++ tSign b ++ [32] ++ tSign b ++ [32] ++ tSign b ++ [32] ++ tSign b
def fCommas (b : UInt8) : PL := [(([101, 110], wLong), [tSign b, tSign b, tSign b, tSign b])]
theorem az_bytes {p : UInt8 → Bool} (h : ∀ n : Nat, n < 26 → p (UInt8.ofNat (97 + n)) = true) (b : UInt8) (h1 : 97 ≤ b.toNat) (h2 : b.toNat ≤ 122) : p b = true := by
  have := h (b.toNat - 97) (by omega)
  rwa [show 97 + (b.toNat - 97) = b.toNat by omega, UInt8.ofNat_toNat] at this
set_option maxRecDepth 100000 in
theorem load_commas (b : UInt8) (h1 : 97 ≤ b.toNat) (h2 : b.toNat ≤ 122) : loadB (tCommas b) = (0, 0, fCommas b) := by
  have := az_bytes (p := fun b => decide (loadB (tCommas b) = (0, 0, fCommas b))) (by decide +kernel) b h1 h2
  exact of_decide_eq_true this
theorem four_commas (b : UInt8) : FourP 120 (fCommas b) := by
  intro f hf
  obtain rfl := List.mem_singleton.1 hf
  refine ⟨rfl, fun t ht => ?_⟩
  have : t = tSign b := by simpa [fCommas] using ht
  rw [this]
  exact (show 7 ≤ 120 by decide)
theorem fill_sign (x y : Bs) (b : UInt8) (h1 : 97 ≤ b.toNat) : fillP [x, y] (tSign b) = x ++ b :: y := by
  have hn : signOf ([x, y].map ofL) [b, 123, 49, 125] = none := sign_no _ (fun h => by have e := h.2.1; cases e)
  show fillB ([x, y].map ofL) (123 :: 48 :: 125 :: [b, 123, 49, 125]) = _
  rw [fillB_some (x := ofL x) rfl]
  show x ++ fillB _ [b, 123, 49, 125] = _
  rw [fillB_none hn]
  show x ++ b :: (y ++ []) = _
  rw [List.append_nil]
theorem find_commas (b : UInt8) : findP (fCommas b) (widthsB wShort) [[101, 110]] = some [tSign b, tSign b, tSign b, tSign b] := rfl
/-- All, the sign between. -/
def withC (b : UInt8) : List Bs → Bs
  | [] => []
  | [a] => a
  | a :: x :: l => a ++ b :: withC b (x :: l)
theorem commas_join (b : UInt8) (h1 : 97 ≤ b.toNat) (l : List Bs) (hl : 1 ≤ l.length) (h8 : l.length ≤ 8) : joinP (fCommas b) (widthsB wShort) [[101, 110]] l = (withC b l, true) := by
  unfold joinP
  rw [find_commas]
  match l, hl, h8 with
  | [a], _, _ => rfl
  | [a, b2], _, _ => simp [fill_sign _ _ b h1, withC]
  | [a, b2, c], _, _ => simp [fill_sign _ _ b h1, midP, withC]
  | [a, b2, c, d], _, _ => simp [fill_sign _ _ b h1, midP, withC]
  | [a, b2, c, d, e], _, _ => simp [fill_sign _ _ b h1, midP, withC]
  | [a, b2, c, d, e, f], _, _ => simp [fill_sign _ _ b h1, midP, withC]
  | [a, b2, c, d, e, f, g], _, _ => simp [fill_sign _ _ b h1, midP, withC]
  | [a, b2, c, d, e, f, g, h], _, _ => simp [fill_sign _ _ b h1, midP, withC]
theorem withC_snoc (b : UInt8) (x : Bs) : ∀ l : List Bs, l ≠ [] → withC b (l ++ [x]) = withC b l ++ b :: x
  | [], h => absurd rfl h
  | [a], _ => rfl
  | a :: y :: l, _ => by
    show a ++ b :: withC b (y :: l ++ [x]) = _
    rw [withC_snoc b x (y :: l) (by simp), withC]
    simp
theorem withC_len (b : UInt8) : ∀ l : List Bs, (∀ x ∈ l, x.length ≤ 30) → (withC b l).length ≤ 31 * l.length
  | [], _ => by simp [withC]
  | [a], h => by have := h a List.mem_cons_self; simp [withC]; omega
  | a :: x :: l, h => by
    have h1 := h a List.mem_cons_self
    have h2 := withC_len b (x :: l) (fun y hy => h y (List.mem_cons_of_mem _ hy))
    simp only [withC, List.length_append, List.length_cons] at h2 ⊢
    omega
theorem text_commas {b : UInt8} {sB : ByteArray} (h : sB = ofL [b]) : (({ data := #[108, 105, 115, 116, 32, 101, 110, 32, 108, 111, 110, 103, 32] } : ByteArray) ++ (({ data := #[123, 48, 125] } : ByteArray) ++ sB ++ ({ data := #[123, 49, 125] } : ByteArray)) ++ ({ data := #[32] } : ByteArray) ++ (({ data := #[123, 48, 125] } : ByteArray) ++ sB ++ ({ data := #[123, 49, 125] } : ByteArray)) ++ ({ data := #[32] } : ByteArray) ++ (({ data := #[123, 48, 125] } : ByteArray) ++ sB ++ ({ data := #[123, 49, 125] } : ByteArray)) ++ ({ data := #[32] } : ByteArray) ++ (({ data := #[123, 48, 125] } : ByteArray) ++ sB ++ ({ data := #[123, 49, 125] } : ByteArray))) = ofL (tCommas b) := by
  subst h
  show ofL [108, 105, 115, 116, 32, 101, 110, 32, 108, 111, 110, 103, 32] ++ (ofL [123, 48, 125] ++ ofL [b] ++ ofL [123, 49, 125]) ++ ofL [32] ++ (ofL [123, 48, 125] ++ ofL [b] ++ ofL [123, 49, 125]) ++ ofL [32] ++ (ofL [123, 48, 125] ++ ofL [b] ++ ofL [123, 49, 125]) ++ ofL [32] ++ (ofL [123, 48, 125] ++ ofL [b] ++ ofL [123, 49, 125]) = _
  simp only [ofL_append]
  rfl
theorem load25_of (s : ByteArray) (t : Bs) (hs : s = ofL t) (x : Int × Int × PL) (hx : loadB t = x) (w : World) (hG : Glob w) :
    Calls Tryd.prog 53 #[.string s] w fun e w' => LoadsAt w' e (encR x) ∧ Below w.heap.size w w' := by
  subst hs
  exact load25_any t x hx w hG
/-- A text of one byte. -/
theorem conv_one (w : World) (b : UInt8) (n : Nat) (hn : n = b.toNat) (s : ByteArray) (hs : s = ofL [b]) : (convert 86 9 (.slice (some ⟨w.heap.size, 0, none⟩) 1 1)).run Tryd.prog (w.alloc (.cells #[.int .u8 (n : Int)] 5)) = .ok (.string s) (w.alloc (.cells #[.int .u8 (n : Int)] 5)) := by
  subst hn
  subst hs
  have hcv := run_convert_bytes_arg (w.alloc (.cells #[.int .u8 (b.toNat : Int)] 5)) (P := Tryd.prog) 86 5 Tryd.underlying86 Tryd.underlying5 w.heap.size 0 1 1 [(b.toNat : Int)] rfl (fun i hi => by
    obtain rfl : i = 0 := by omega
    exact blk_cell (blk_new w _) 0) 9 Tryd.underlying9
  have hst : strOfNums [(b.toNat : Int)] = ofL [b] := by simp [strOfNums, ofL]
  rw [hst] at hcv
  exact hcv
set_option maxHeartbeats 2000000 in
set_option maxRecDepth 100000 in
theorem JoinCommas_any (A : Option Addr) (c : Nat) (l : List ByteArray) (b : UInt8) (w : World) (hC : Kd.C Kd.string w A l.length l) (hc : l.length ≤ c) (hG : Glob w) :
    Calls Tryd.prog 17 #[.slice A l.length c, .int .u8 (b.toNat : Int)] w fun e w' => e = .returned (.bool true) ∧ Below w.heap.size w w' := by
  obtain ⟨lb, rfl⟩ : ∃ lb : List Bs, l = lb.map ofL := ⟨l.map (·.data.toList), (map_ofL l).symm⟩
  rw [List.length_map] at hC hc ⊢
  have hm : lb.length ≤ 9223372036854775807 := hC.2.1
  have HG := Aside0.mk hG
  have HC := Aside0.mk hC
  clear hG hC
  obtain ⟨nl, hnl⟩ : ∃ m, m = lb.length := ⟨_, rfl⟩
  rw [← hnl] at hc hm ⊢
  have HN := Aside0.mk hnl
  clear hnl
  obtain ⟨bn, hbn⟩ : ∃ m, m = b.toNat := ⟨_, rfl⟩
  rw [← hbn]
  have hb256 : bn < 256 := by rw [hbn]; exact b.toNat_lt
  have HBn := Aside0.mk hbn
  clear hbn
  go_enter Tryd.func17, Tryd.ntmps17
  go_wp2_with fail
  refine (awake25_any w HG.out).mono ?_
  rintro e w1 ⟨rfl, hb⟩
  have HB := Aside0.mk hb
  clear hb
  by_cases h1 : nl < 1
  · have h1' : (nl : Int) < 1 := by omega
    go_wp2_with fail
    go_ret
    exact ⟨rfl, HB.out⟩
  have f1 : ¬ (nl : Int) < 1 := by omega
  by_cases h8 : 8 < nl
  · have h8' : (8 : Int) < (nl : Int) := by omega
    go_wp2_with fail
    go_ret
    exact ⟨rfl, HB.out⟩
  have f8 : ¬ (8 : Int) < (nl : Int) := by omega
  by_cases ha : bn < 97
  · have ha' : (bn : Int) < 97 := by omega
    go_wp2_with fail
    go_ret
    exact ⟨rfl, HB.out⟩
  have fa : ¬ (bn : Int) < 97 := by omega
  by_cases hz : 122 < bn
  · have hz' : (122 : Int) < (bn : Int) := by omega
    go_wp2_with fail
    go_ret
    exact ⟨rfl, HB.out⟩
  have fz : ¬ (122 : Int) < (bn : Int) := by omega
  obtain ⟨sB, hsB⟩ : ∃ s, s = ofL [b] := ⟨_, rfl⟩
  have hcv := conv_one w1 b bn HBn.out sB hsB
  have hsz : sB.size = 1 := by rw [hsB]; rfl
  have HS := Aside0.mk hsB
  clear hsB
  go_wp2_with fail
  refine (load25_of _ (tCommas b) (text_commas HS.out) _ (load_commas b (by have := HBn.out; omega) (by have := HBn.out; omega)) _ ((HG.out.below HB.out).alloc _)).mono ?_
  rintro e w2 ⟨hL0, hb⟩
  obtain ⟨B, M, n, rfl, hL⟩ := loads_ok hL0
  clear hL0 hcv
  have HL := Aside0.mk hL
  have HB2 := Aside0.mk (below_step (below_alloc HB.out _) hb)
  clear hL hb
  go_wp2_with fail
  go_loopw [9, 10] (fun v i wr => ∃ (j : Nat) (s : ByteArray), j ≤ nl ∧ i = .int .i64 j ∧ v = .string s ∧ Aside0 (s = ofL (withC b (lb.take j))) ∧ Aside0 (∀ x ∈ lb.take j, x.length ≤ 30) ∧ Aside0 (Below w2.heap.size w2 wr)) (fun _ i _ => nl - (intOf i).toNat)
  case atStart => exact ⟨0, _, Nat.zero_le _, rfl, rfl, ⟨by rw [List.take_zero]; rfl⟩, ⟨fun x hx => by simp at hx⟩, ⟨Below.refl _ _⟩⟩
  case round =>
    obtain ⟨j, s, hj, rfl, rfl, HV, H3, HBr⟩ := hrel
    rename_i wr
    by_cases hlt : j < nl
    · obtain ⟨bk, o, rfl, hcs⟩ := C_strsD HC.out (by have := HN.out; omega)
      have hjl : j < lb.length := by have := HN.out; omega
      have HBw := Aside0.mk (below_step HB2.out HBr.out)
      have hx := pw_cell_below HBw.out (hcs j (by rw [List.length_map]; exact hjl))
      rw [List.getD_eq_getElem?_getD, List.getElem?_map, List.getElem?_eq_getElem hjl, Option.map_some, Option.getD_some] at hx
      have hall := H3.out
      have htk := List.take_succ_eq_append_getElem hjl
      have hwl := withC_len b _ hall
      rw [List.length_take] at hwl
      obtain ⟨x, hxd⟩ : ∃ x, x = lb[j] := ⟨_, rfl⟩
      rw [← hxd] at hx htk
      obtain ⟨sx, hsx⟩ : ∃ s, s = ofL x := ⟨_, rfl⟩
      rw [← hsx] at hx
      obtain ⟨z, hz⟩ : ∃ z, z = sx.size := ⟨_, rfl⟩
      have hzl : z = x.length := by rw [hz, hsx]; exact ofL_size x
      have hs300 : s.size ≤ 300 := by rw [HV.out, ofL_size]; omega
      have HX := Aside0.mk hx
      have HSx := Aside0.mk hsx
      have HZ := Aside0.mk hz
      have HZL := Aside0.mk hzl
      have HTk := Aside0.mk htk
      clear hcs hall htk hwl hxd hsx hz hzl hx
      have hx := HX.out
      have hz2 := HZ.out.symm
      by_cases hbig : 30 < z
      · have hbi : (30 : Int) < (z : Int) := by omega
        go_wp2_with fail
        go_ret
        exact ⟨rfl, HBw.out⟩
      · have hbi : ¬ (30 : Int) < (z : Int) := by omega
        have H3n : Aside0 (∀ y ∈ lb.take (j + 1), y.length ≤ 30) := ⟨fun y hy => by
          rw [HTk.out] at hy
          rcases List.mem_append.1 hy with hy | hy
          · exact H3.out y hy
          · obtain rfl := List.mem_singleton.1 hy
            have := HZL.out
            omega⟩
        by_cases h0 : j = 0
        · have HVn : Aside0 (s ++ sx = ofL (withC b (lb.take (j + 1)))) := ⟨by
            rw [HTk.out, HV.out, HSx.out, h0, List.take_zero]
            exact ofL_append [] x⟩
          have h0' : ¬ (0 : Int) < (j : Int) := by omega
          have H0 := Aside0.mk h0
          clear h0
          go_wp2_with fail
          exact ⟨⟨j + 1, _, by omega, by go_num, rfl, HVn, H3n, HBr⟩, by simp [intOf]; omega⟩
        · have h0' : (0 : Int) < (j : Int) := by omega
          have hcv := conv_one wr b bn HBn.out sB HS.out
          have hne : lb.take j ≠ [] := fun e => by
            have h2 : (lb.take j).length = 0 := by rw [e]; rfl
            rw [List.length_take] at h2
            omega
          have HVn : Aside0 (s ++ sB ++ sx = ofL (withC b (lb.take (j + 1)))) := ⟨by
            rw [HTk.out, withC_snoc b x _ hne, HV.out, HS.out, HSx.out, ofL_append, ofL_append]
            congr 1
            simp⟩
          clear hne
          have hx' := pw_cell_below (below_alloc (Below.refl wr.heap.size wr) (.cells #[.int .u8 (bn : Int)] 5)) HX.out
          go_wp2_with fail
          exact ⟨⟨j + 1, _, by omega, by go_num, rfl, HVn, H3n, ⟨below_alloc HBr.out _⟩⟩, by simp [intOf]; omega⟩
    · obtain rfl : nl = j := by omega
      have htk : lb.take nl = lb := by rw [HN.out]; exact List.take_length
      rw [htk] at H3 HV
      have hbn : 97 ≤ b.toNat := by have := HBn.out; omega
      have hj := commas_join b hbn lb (by have := HN.out; omega) (by have := HN.out; omega)
      have hv := HV.out
      have HJ := Aside0.mk hj
      have HBw := Aside0.mk (below_step HB2.out HBr.out)
      have HCw := Aside0.mk (Kd.C_below HC.out HBw.out)
      clear hj htk hbn hv
      go_wp2_with fail
      refine (joinN_any nl HN.out B M n (fCommas b) _ A _ _ [[101, 110]] wShort _ ((HG.out.below HBw.out).alloc _) ((HL.out.below HBr.out).below (below_alloc (Below.refl _ _) _)) (litS wr _ rfl [[101, 110]] (by decide)) (Nat.le_refl _) (Kd.C_alloc HCw.out _) hc (by decide) (four_commas b) (by have := HN.out; omega) H3.out _ HJ.out).mono ?_
      rintro e w3 ⟨rfl, hb3⟩
      have HB3 := Aside0.mk (below_step (below_alloc HBw.out _) hb3)
      clear hb3
      dsimp only
      have hv := HV.out
      rw [← hv]
      clear hv
      go_wp2_with fail
      go_ret
      exact ⟨rfl, HB3.out⟩
end Go.Proofs.YthefdpioaapomaaDoor.Pj
