/- The statement JoinEach, walked by hand: it answers true. -/
import Derived.Test.YthefdpioaapomaaDoorLoadJ
namespace Go.Proofs.YthefdpioaapomaaDoor.Pj
set_option linter.unusedVariables false
set_option linter.unusedSimpArgs false
open Go.RowKit Go.Proofs.YthefdpioaapomaaDoorW.PrintWords Go.Proofs.YthefdpioaapomaaDoorW.PrintLast Go.Proofs.YthefdpioaapomaaDoor.Ext Go.Proofs.YthefdpioaapomaaDoorW.PrintMore Go.Proofs.YthefdpioaapomaaDoor.PA Go.Proofs.YthefdpioaapomaaDoor.PJ Go.Proofs.YthefdpioaapomaaDoor.Pl Go.Proofs.YthefdpioaapomaaDoor.Pu7

def tEach : Bs := [108, 105, 115, 116, 32, 101, 110, 32, 108, 111, 110, 103, 32, 123, 48, 125, 95, 117, 110, 100, 95, 123, 49, 125, 32, 123, 48, 125, 44, 95, 123, 49, 125, 32, 123, 48, 125, 44, 95, 123, 49, 125, 32, 123, 48, 125, 95, 117, 110, 100, 95, 123, 49, 125]
abbrev tUnd : Bs := [123, 48, 125, 32, 117, 110, 100, 32, 123, 49, 125]
abbrev tCom : Bs := [123, 48, 125, 44, 32, 123, 49, 125]
def fEach : PL := [(([101, 110], wLong), [tUnd, tCom, tCom, tUnd])]
set_option maxRecDepth 100000 in
theorem load_each : loadB tEach = (0, 0, fEach) := by decide +kernel
theorem four_each : FourP 120 fEach := by unfold FourP fEach; decide
theorem fill_und (a b : Bs) : fillP [a, b] tUnd = a ++ ([32, 117, 110, 100, 32] ++ b) := by
  show a ++ (32 :: 117 :: 110 :: 100 :: 32 :: (b ++ [])) = _
  simp
theorem fill_com (a b : Bs) : fillP [a, b] tCom = a ++ ([44, 32] ++ b) := by
  show a ++ (44 :: 32 :: (b ++ [])) = _
  simp
def sumL (l : List Bs) : Nat := (l.map List.length).sum
theorem find_each : findP fEach (widthsB wLong) [[101, 110]] = some [tUnd, tCom, tCom, tUnd] := by decide +kernel
theorem each_len (l : List Bs) (h1 : 1 ≤ l.length) (h6 : l.length ≤ 6) : (joinP fEach (widthsB wLong) [[101, 110]] l).2 = true ∧ (joinP fEach (widthsB wLong) [[101, 110]] l).1.length = sumL l + if 1 < l.length then 5 + 2 * (l.length - 2) else 0 := by
  unfold joinP sumL
  rw [find_each]
  match l, h1, h6 with
  | [a], _, _ => simp
  | [a, b], _, _ => simp [fill_und]; omega
  | [a, b, c], _, _ => simp [fill_und, fill_com, midP]; omega
  | [a, b, c, d], _, _ => simp [fill_und, fill_com, midP]; omega
  | [a, b, c, d, e], _, _ => simp [fill_und, fill_com, midP]; omega
  | [a, b, c, d, e, f], _, _ => simp [fill_und, fill_com, midP]; omega
theorem sumL_take (l : List Bs) {i : Nat} (h : i < l.length) : sumL (l.take (i + 1)) = sumL (l.take i) + l[i].length := by
  unfold sumL
  rw [List.take_succ_eq_append_getElem h, List.map_append, List.sum_append]
  simp
theorem sumL_small (l : List Bs) (h : ∀ x ∈ l, x.length ≤ 30) : sumL l ≤ 30 * l.length := by
  unfold sumL
  induction l with
  | nil => simp
  | cons a l ih =>
    have h1 := ih (fun x hx => h x (List.mem_cons_of_mem _ hx))
    have h2 := h a List.mem_cons_self
    simp only [List.map_cons, List.sum_cons, List.length_cons]
    omega
set_option maxHeartbeats 2000000 in
set_option maxRecDepth 100000 in
theorem JoinEach_any (A : Option Addr) (c : Nat) (l : List ByteArray) (w : World) (hC : Kd.C Kd.string w A l.length l) (hc : l.length ≤ c) (hG : Glob w) :
    Calls Tryd.prog 18 #[.slice A l.length c] w fun e w' => e = .returned (.bool true) ∧ Below w.heap.size w w' := by
  obtain ⟨lb, rfl⟩ : ∃ lb : List Bs, l = lb.map ofL := ⟨l.map (·.data.toList), (map_ofL l).symm⟩
  rw [List.length_map] at hC hc ⊢
  have hm : lb.length ≤ 9223372036854775807 := hC.2.1
  have HG := Aside0.mk hG
  have HC := Aside0.mk hC
  clear hG hC
  obtain ⟨nl, hnl⟩ : ∃ m, m = lb.length := ⟨_, rfl⟩
  rw [← hnl] at hc hm ⊢
  have HN := Aside0.mk hnl
  clear hnl
  go_enter Tryd.func18, Tryd.ntmps18
  go_wp2_with fail
  refine (awake25_any w HG.out).mono ?_
  rintro e w1 ⟨rfl, hb⟩
  have HB := Aside0.mk hb
  clear hb
  by_cases h1 : nl < 1
  · have h1' : (nl : Int) < 1 := by omega
    go_wp2_with fail
    go_ret
    exact ⟨rfl, HB.out⟩
  by_cases h6 : 6 < nl
  · have f1 : ¬ (nl : Int) < 1 := by omega
    have h6' : (6 : Int) < (nl : Int) := by omega
    go_wp2_with fail
    go_ret
    exact ⟨rfl, HB.out⟩
  have f1 : ¬ (nl : Int) < 1 := by omega
  have f2 : ¬ (6 : Int) < (nl : Int) := by omega
  go_wp2_with fail
  refine (load25_any tEach _ load_each w1 (HG.out.below HB.out)).mono ?_
  rintro e w2 ⟨hL0, hb⟩
  obtain ⟨B, M, n, rfl, hL⟩ := loads_ok hL0
  clear hL0
  have HL := Aside0.mk hL
  have HB2 := Aside0.mk (below_step HB.out hb)
  clear hL hb
  go_wp2_with fail
  go_loop [6, 7] (fun v i => ∃ j : Nat, j ≤ nl ∧ i = .int .i64 j ∧ v = .int .i64 (sumL (lb.take j) : Nat) ∧ Aside0 (∀ x ∈ lb.take j, x.length ≤ 30)) (fun _ i => nl - (intOf i).toNat)
  case atStart => exact ⟨0, Nat.zero_le _, rfl, rfl, ⟨fun x hx => by simp at hx⟩⟩
  case round =>
    obtain ⟨j, hj, rfl, rfl, H3⟩ := hrel
    by_cases hlt : j < nl
    · obtain ⟨bk, o, rfl, hcs⟩ := C_strsD HC.out (by have := HN.out; omega)
      have hjl : j < lb.length := by have := HN.out; omega
      have hx := pw_cell_below HB2.out (hcs j (by rw [List.length_map]; exact hjl))
      rw [List.getD_eq_getElem?_getD, List.getElem?_map, List.getElem?_eq_getElem hjl, Option.map_some, Option.getD_some] at hx
      have hsum := sumL_take lb hjl
      have hall := H3.out
      have htk := List.take_succ_eq_append_getElem hjl
      have hsm := sumL_small _ hall
      rw [List.length_take] at hsm
      obtain ⟨x, hxd⟩ : ∃ x, x = lb[j] := ⟨_, rfl⟩
      rw [← hxd] at hx hsum htk
      have hsz := ofL_size x
      obtain ⟨z, hz⟩ : ∃ z, z = (ofL x).size := ⟨_, rfl⟩
      have hzl : z = x.length := by rw [hz]; exact hsz
      have hb0 : sumL (lb.take j) ≤ 180 := by omega
      obtain ⟨S, hS⟩ : ∃ S, S = sumL (lb.take j) := ⟨_, rfl⟩
      rw [← hS] at hsum hb0 ⊢
      have HSz := Aside0.mk hz
      have HZL := Aside0.mk hzl
      have HSum := Aside0.mk hsum
      have HTk := Aside0.mk htk
      clear hcs hall hsm hxd hsz hz hzl hS hsum htk
      by_cases hbig : 30 < z
      · have hbi : (30 : Int) < (z : Int) := by omega
        have hz2 := HSz.out.symm
        go_wp2_with fail
        go_ret
        exact ⟨rfl, HB2.out⟩
      · have hbi : ¬ (30 : Int) < (z : Int) := by omega
        have hz2 := HSz.out.symm
        have hb1 : (S : Int) ≤ 180 := by omega
        go_wp2_with fail
        refine ⟨⟨j + 1, by omega, by go_num, ?_, ⟨fun y hy => ?_⟩⟩, by simp [intOf]; omega⟩
        · rw [HSum.out, ← HZL.out]
          go_num
        · rw [HTk.out] at hy
          rcases List.mem_append.1 hy with hy | hy
          · exact H3.out y hy
          · obtain rfl := List.mem_singleton.1 hy
            have := HZL.out
            omega
    · obtain rfl : nl = j := by omega
      have htk : lb.take nl = lb := by rw [HN.out]; exact List.take_length
      rw [htk] at H3 ⊢
      obtain ⟨ht, hlen⟩ := each_len lb (by have := HN.out; omega) (by have := HN.out; omega)
      have hsm := sumL_small lb H3.out
      rw [← HN.out] at hlen hsm
      obtain ⟨r, hr⟩ : ∃ r, joinP fEach (widthsB wLong) [[101, 110]] lb = r := ⟨_, rfl⟩
      rw [hr] at ht hlen
      obtain ⟨rs, rb⟩ := r
      obtain rfl : rb = true := ht
      have HR := Aside0.mk hr
      dsimp only at hlen
      have HLn := Aside0.mk hlen
      obtain ⟨S, hS⟩ : ∃ S, S = sumL lb := ⟨_, rfl⟩
      have HS := Aside0.mk hS
      have hS180 : S ≤ 180 := by omega
      rw [← hS]
      clear hr hlen htk hsm hS
      go_wp2_with fail
      have HC1 := Aside0.mk (Kd.C_below HC.out HB2.out)
      have HN2 := HN.out
      refine (joinN_any nl HN.out B M n fEach _ A _ _ [[101, 110]] wLong _ ((HG.out.below HB2.out).alloc _) (HL.out.below (below_alloc (Below.refl _ _) _)) (litS w2 _ rfl [[101, 110]] (by decide)) (Nat.le_refl _) (Kd.C_alloc HC1.out _) hc (by decide) four_each (by have := HN.out; omega) H3.out _ HR.out).mono ?_
      rintro e w3 ⟨rfl, hb3⟩
      have HB3 := Aside0.mk (below_step (below_alloc HB2.out _) hb3)
      clear hb3 HN2
      dsimp only
      obtain ⟨z, hz⟩ : ∃ z, z = (ofL rs).size := ⟨_, rfl⟩
      have hzl : z = rs.length := by rw [hz]; exact ofL_size rs
      have hS1 : (S : Int) ≤ 180 := by omega
      have HZ := Aside0.mk hzl
      have hz2 := hz.symm
      clear hzl hz
      by_cases h2 : 1 < nl
      · have hl2 : (1 : Int) < (nl : Int) := by omega
        have hv : ((z : Int) == (S : Int) + 5 + 2 * ((nl : Int) - 2)) = true := by
          have e1 := HLn.out
          rw [if_pos h2, ← HZ.out, ← HS.out] at e1
          rw [beq_iff_eq]
          omega
        go_wp2_with fail
        go_ret
        exact ⟨rfl, HB3.out⟩
      · have hl2 : ¬ (1 : Int) < (nl : Int) := by omega
        have hv : ((z : Int) == (S : Int)) = true := by
          have e1 := HLn.out
          rw [if_neg h2, ← HZ.out, ← HS.out] at e1
          rw [beq_iff_eq]
          omega
        go_wp2_with fail
        go_ret
        exact ⟨rfl, HB3.out⟩
end Go.Proofs.YthefdpioaapomaaDoor.Pj
