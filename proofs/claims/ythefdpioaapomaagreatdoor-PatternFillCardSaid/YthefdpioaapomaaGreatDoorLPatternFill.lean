/- The statement PatternFill, walked by hand: it answers true. -/
import Derived.Test.YthefdpioaapomaaGreatDoorAwakeW
namespace Go.Proofs.YthefdpioaapomaaGreatDoor.Pz
set_option linter.unusedVariables false
set_option linter.unusedSimpArgs false
open Go.RowKit Go.Proofs.YthefdpioaapomaaGreatDoorW.PrintWords Go.Proofs.YthefdpioaapomaaGreatDoorW.PrintLast Go.Proofs.YthefdpioaapomaaGreatDoor.Ext Go.Proofs.YthefdpioaapomaaGreatDoorW.PrintMore Go.Proofs.YthefdpioaapomaaGreatDoor.PA Go.Proofs.YthefdpioaapomaaGreatDoor.Pl

def NoSign (l : Bs) : Prop := ∀ c ∈ l, c ≠ 123 ∧ c ≠ 125
theorem signOf_ne (a : List ByteArray) {b : UInt8} {l : Bs} (h : b ≠ 123) : signOf a (b :: l) = none := by
  match l with
  | [] => rfl
  | [_] => rfl
  | b1 :: b2 :: l => exact sign_no a (fun q => h q.1)
theorem fill_skip (a : List ByteArray) : ∀ (l r : Bs), NoSign l → fillB a (l ++ r) = l ++ fillB a r
  | [], r, _ => rfl
  | b :: l, r, h => by
    rw [List.cons_append, fillB_none (signOf_ne a (h b List.mem_cons_self).1), fill_skip a l r (fun c hc => h c (List.mem_cons_of_mem _ hc))]
    rfl
theorem fill_plain (a : List ByteArray) (l : Bs) (h : NoSign l) : fillB a l = l := by
  have := fill_skip a l [] h
  rwa [List.append_nil, fillB_nil, List.append_nil] at this
theorem fill_zero (x : ByteArray) (l r : Bs) (hl : NoSign l) (hr : NoSign r) : fillB [x] (l ++ ([123, 48, 125] ++ r)) = l ++ (x.data.toList ++ r) := by
  rw [fill_skip _ _ _ hl]
  show l ++ fillB [x] (123 :: 48 :: 125 :: r) = _
  rw [fillB_some (x := x) rfl]
  show l ++ (x.data.toList ++ fillB [x] r) = _
  rw [fill_plain _ _ hr]
theorem fill_one (a : List ByteArray) (d : UInt8) (l r : Bs) (hl : NoSign l) (hr : NoSign r) (hd : d ≠ 123) (ha : a.length ≤ d.toNat - 48) : fillB a (l ++ ([123, d, 125] ++ r)) = l ++ ([123, d, 125] ++ r) := by
  rw [fill_skip _ _ _ hl]
  show l ++ fillB a (123 :: d :: 125 :: r) = _
  rw [fillB_none (sign_no a (fun q => by have := q.2.2.2.2; omega)), fillB_none (signOf_ne a hd), fillB_none (signOf_ne a (by decide)), fill_plain _ _ hr]
  try rfl
theorem fill_to (s r : ByteArray) (A : Option Addr) (c : Nat) (l : List ByteArray) (w : World) (hC : Kd.C Kd.string w A l.length l) (hc : l.length ≤ c) (hs : s.size ≤ 100000) (hr : r.size ≤ 100000) (h : fillB l s.data.toList = r.data.toList) :
    Calls Tryz.prog 14 #[.string s, .slice A l.length c] w fun e w' => e = .returned (.string r) ∧ Below w.heap.size w w' := by
  have e : (⟨(fillB l s.data.toList).toArray⟩ : ByteArray) = r := by rw [h]
  have := fill_any s A c l w hC hc (by omega) (by rw [h, ← Lib.size_eq]; omega)
  rwa [e] at this
theorem lit1 (w : World) (x : ByteArray) : Kd.C Kd.string (w.alloc (.cells #[.string x] 9)) (some ⟨w.heap.size, 0, none⟩) 1 [x] := litK w [x] (by simp)
theorem app_data (a b : ByteArray) : (a ++ b).data.toList = a.data.toList ++ b.data.toList := by simp
set_option maxHeartbeats 4000000 in
set_option maxRecDepth 100000 in
theorem PatternFill_any (a b x : ByteArray) (w : World) (hG : Glob w) :
    Calls Tryz.prog 5 #[.string a, .string b, .string x] w fun e w' => e = .returned (.bool true) ∧ Below w.heap.size w w' := by
  have HG := Aside0.mk hG
  clear hG
  obtain ⟨na, hna⟩ : ∃ n, n = a.size := ⟨_, rfl⟩
  obtain ⟨nb, hnb⟩ : ∃ n, n = b.size := ⟨_, rfl⟩
  obtain ⟨nx, hnx⟩ : ∃ n, n = x.size := ⟨_, rfl⟩
  have HA := Aside0.mk hna
  have HBn := Aside0.mk hnb
  have HX := Aside0.mk hnx
  have za := hna.symm
  have zb := hnb.symm
  have zx := hnx.symm
  clear hna hnb hnx
  go_enter Tryz.func5, Tryz.ntmps5
  go_wp2_with fail
  refine (awake22_any w HG.out).mono ?_
  rintro e w1 ⟨rfl, hb⟩
  have HB := Aside0.mk hb
  clear hb
  by_cases ha : 60 < na
  · have ha' : (60 : Int) < (na : Int) := by omega
    go_wp2_with fail
    go_ret
    exact ⟨rfl, HB.out⟩
  have fa : ¬ (60 : Int) < (na : Int) := by omega
  by_cases hb : 60 < nb
  · have hb' : (60 : Int) < (nb : Int) := by omega
    go_wp2_with fail
    go_ret
    exact ⟨rfl, HB.out⟩
  have fb : ¬ (60 : Int) < (nb : Int) := by omega
  by_cases hx : 60 < nx
  · have hx' : (60 : Int) < (nx : Int) := by omega
    go_wp2_with fail
    go_ret
    exact ⟨rfl, HB.out⟩
  have fx : ¬ (60 : Int) < (nx : Int) := by omega
  go_wp2_with fail
  go_loop [7] (fun i => ∃ j : Nat, j ≤ na ∧ i = .int .i64 j ∧ Aside0 (NoSign (a.data.toList.take j))) (fun i => na - (intOf i).toNat)
  case atStart => exact ⟨0, Nat.zero_le _, rfl, ⟨fun c hc => by simp at hc⟩⟩
  case round =>
    obtain ⟨j, hj, rfl, HN⟩ := hrel
    by_cases hlt : j < na
    · have hja : j < a.size := by have := HA.out; omega
      have hjl : j < a.data.toList.length := by rw [← Lib.size_eq]; exact hja
      have htk := List.take_succ_eq_append_getElem hjl
      obtain ⟨c, hc⟩ : ∃ c, c = a.data.toList[j] := ⟨_, rfl⟩
      have hck : a[j] = c := by rw [hc]; rfl
      rw [← hc] at htk
      have HTk := Aside0.mk htk
      clear hc htk
      by_cases h1 : c = 123
      · have q1 : ((c.toNat : Int) == 123) = true := by rw [h1]; rfl
        go_wp2_with fail
        go_ret
        exact ⟨rfl, HB.out⟩
      · have q1 : ((c.toNat : Int) == 123) = false := beq_eq_false_iff_ne.2 (fun e => h1 (UInt8.toNat_inj.1 (by show c.toNat = 123; omega)))
        by_cases h2 : c = 125
        · have q2 : ((c.toNat : Int) == 125) = true := by rw [h2]; rfl
          clear h1
          go_wp2_with fail
          go_ret
          exact ⟨rfl, HB.out⟩
        · have q2 : ((c.toNat : Int) == 125) = false := beq_eq_false_iff_ne.2 (fun e => h2 (UInt8.toNat_inj.1 (by show c.toNat = 125; omega)))
          have HN2 : Aside0 (NoSign (a.data.toList.take (j + 1))) := ⟨fun d hd => by
            rw [HTk.out] at hd
            rcases List.mem_append.1 hd with hd | hd
            · exact HN.out d hd
            · obtain rfl := List.mem_singleton.1 hd
              exact ⟨h1, h2⟩⟩
          clear h1 h2
          go_wp2_with fail
          exact ⟨⟨j + 1, by omega, by go_num, HN2⟩, by simp [intOf]; omega⟩
    · obtain rfl : na = j := by omega
      have HNa : Aside0 (NoSign a.data.toList) := ⟨by have h := HN.out; rwa [HA.out, Lib.size_eq, List.take_length] at h⟩
      clear HN
      go_wp2_with fail
      go_loop [8] (fun i => ∃ j : Nat, j ≤ nb ∧ i = .int .i64 j ∧ Aside0 (NoSign (b.data.toList.take j))) (fun i => nb - (intOf i).toNat)
      case atStart => exact ⟨0, Nat.zero_le _, rfl, ⟨fun c hc => by simp at hc⟩⟩
      case round =>
        obtain ⟨j, hj, rfl, HN⟩ := hrel
        by_cases hlt : j < nb
        · have hja : j < b.size := by have := HBn.out; omega
          have hjl : j < b.data.toList.length := by rw [← Lib.size_eq]; exact hja
          have htk := List.take_succ_eq_append_getElem hjl
          obtain ⟨c, hc⟩ : ∃ c, c = b.data.toList[j] := ⟨_, rfl⟩
          have hck : b[j] = c := by rw [hc]; rfl
          rw [← hc] at htk
          have HTk := Aside0.mk htk
          clear hc htk
          by_cases h1 : c = 123
          · have q1 : ((c.toNat : Int) == 123) = true := by rw [h1]; rfl
            go_wp2_with fail
            go_ret
            exact ⟨rfl, HB.out⟩
          · have q1 : ((c.toNat : Int) == 123) = false := beq_eq_false_iff_ne.2 (fun e => h1 (UInt8.toNat_inj.1 (by show c.toNat = 123; omega)))
            by_cases h2 : c = 125
            · have q2 : ((c.toNat : Int) == 125) = true := by rw [h2]; rfl
              clear h1
              go_wp2_with fail
              go_ret
              exact ⟨rfl, HB.out⟩
            · have q2 : ((c.toNat : Int) == 125) = false := beq_eq_false_iff_ne.2 (fun e => h2 (UInt8.toNat_inj.1 (by show c.toNat = 125; omega)))
              have HN2 : Aside0 (NoSign (b.data.toList.take (j + 1))) := ⟨fun d hd => by
                rw [HTk.out] at hd
                rcases List.mem_append.1 hd with hd | hd
                · exact HN.out d hd
                · obtain rfl := List.mem_singleton.1 hd
                  exact ⟨h1, h2⟩⟩
              clear h1 h2
              go_wp2_with fail
              exact ⟨⟨j + 1, by omega, by go_num, HN2⟩, by simp [intOf]; omega⟩
        · obtain rfl : nb = j := by omega
          have HNb : Aside0 (NoSign b.data.toList) := ⟨by have h := HN.out; rwa [HBn.out, Lib.size_eq, List.take_length] at h⟩
          clear HN
          have hna60 : na ≤ 60 := by omega
          have hnb60 : nb ≤ 60 := by omega
          have hnx60 : nx ≤ 60 := by omega
          obtain ⟨s0, hs0⟩ : ∃ s, s = (⟨#[123, 48, 125]⟩ : ByteArray) := ⟨_, rfl⟩
          obtain ⟨s1, hs1⟩ : ∃ s, s = (⟨#[123, 49, 125]⟩ : ByteArray) := ⟨_, rfl⟩
          have z0 : s0.size = 3 := by rw [hs0]; rfl
          have z1 : s1.size = 3 := by rw [hs1]; rfl
          have d0 : s0.data.toList = [123, 48, 125] := by rw [hs0]
          have d1 : s1.data.toList = [123, 49, 125] := by rw [hs1]
          have zab : (a ++ b).size ≤ 1000 := by rw [ByteArray.size_append]; omega
          have zaxb : (a ++ x ++ b).size ≤ 1000 := by rw [ByteArray.size_append, ByteArray.size_append]; omega
          have za0b : (a ++ s0 ++ b).size ≤ 1000 := by rw [ByteArray.size_append, ByteArray.size_append]; omega
          have za1b : (a ++ s1 ++ b).size ≤ 1000 := by rw [ByteArray.size_append, ByteArray.size_append]; omega
          have E1 : Aside0 (fillB [x] (a ++ b).data.toList = (a ++ b).data.toList) := ⟨by rw [app_data, fill_skip _ _ _ HNa.out, fill_plain _ _ HNb.out]⟩
          have E2 : Aside0 (fillB [x] (a ++ s0 ++ b).data.toList = (a ++ x ++ b).data.toList) := ⟨by rw [app_data, app_data, app_data, app_data, d0, List.append_assoc, fill_zero x _ _ HNa.out HNb.out, List.append_assoc]⟩
          have E3 : Aside0 (fillB [x] (a ++ s1 ++ b).data.toList = (a ++ s1 ++ b).data.toList) := ⟨by rw [app_data, app_data, d1, List.append_assoc, fill_one [x] 49 _ _ HNa.out HNb.out (by decide) (show 1 ≤ 1 from Nat.le_refl _)]⟩
          have E4 : Aside0 (fillB [] (a ++ s0 ++ b).data.toList = (a ++ s0 ++ b).data.toList) := ⟨by rw [app_data, app_data, d0, List.append_assoc, fill_one [] 48 _ _ HNa.out HNb.out (by decide) (by decide)]⟩
          have Z1 := Aside0.mk zab
          have Z2 := Aside0.mk zaxb
          have Z3 := Aside0.mk za0b
          have Z4 := Aside0.mk za1b
          clear zab zaxb za0b za1b d0 d1
          rw [hs0] at E2 E4 Z3 z0
          rw [hs1] at E3 Z4 z1
          clear hs0 hs1 z0 z1
          go_wp2_with fail
          refine (fill_to (a ++ b) (a ++ b) _ 1 [x] _ (lit1 w1 x) (Nat.le_refl _) (by have := Z1.out; omega) (by have := Z1.out; omega) E1.out).mono ?_
          rintro e w2 ⟨rfl, hb2⟩
          have HB2 := Aside0.mk (below_step (below_alloc HB.out _) hb2)
          clear hb2
          go_wp2_with fail
          refine (fill_to _ (a ++ x ++ b) _ 1 [x] _ (lit1 w2 x) (Nat.le_refl _) (by have := Z3.out; omega) (by have := Z2.out; omega) E2.out).mono ?_
          rintro e w3 ⟨rfl, hb2⟩
          have HB3 := Aside0.mk (below_step (below_alloc HB2.out _) hb2)
          clear hb2
          go_wp2_with fail
          refine (fill_to _ _ _ 1 [x] _ (lit1 w3 x) (Nat.le_refl _) (by have := Z4.out; omega) (by have := Z4.out; omega) E3.out).mono ?_
          rintro e w4 ⟨rfl, hb2⟩
          have HB4 := Aside0.mk (below_step (below_alloc HB3.out _) hb2)
          clear hb2
          go_wp2_with fail
          refine (fill_to _ _ none 0 [] _ (Kd.C_nil _ _) (Nat.le_refl _) (by have := Z3.out; omega) (by have := Z3.out; omega) E4.out).mono ?_
          rintro e w5 ⟨rfl, hb2⟩
          have HB5 := Aside0.mk (below_step HB4.out hb2)
          clear hb2
          go_wp2_with fail
          go_ret
          exact ⟨rfl, HB5.out⟩
end Go.Proofs.YthefdpioaapomaaGreatDoor.Pz
