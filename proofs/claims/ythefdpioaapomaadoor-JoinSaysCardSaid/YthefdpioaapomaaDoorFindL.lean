/- (*join.Lists).Find, walked by hand: the texts of the first language and width that has them. -/
import Derived.Test.YthefdpioaapomaaDoorExtN
import Derived.Test.YthefdpioaapomaaDoorPJ1
namespace Go.Proofs.YthefdpioaapomaaDoor.Ext
set_option linter.unusedVariables false
set_option linter.unusedSimpArgs false
open Go.RowKit Go.Proofs.YthefdpioaapomaaDoorW.PrintWords Go.Proofs.YthefdpioaapomaaDoorW.PrintLast Go.Proofs.YthefdpioaapomaaDoorW.PrintMore Go.Maps Go.WideMaps Go.Proofs.YthefdpioaapomaaDoor.PJ

def findW (fs : List (LKey × List ByteArray)) (a : ByteArray) : List ByteArray → Option (List ByteArray)
  | [] => none
  | b :: ws => match getF fs (a, b) with
    | some x => some x
    | none => findW fs a ws
def findL (fs : List (LKey × List ByteArray)) (ws : List ByteArray) : List ByteArray → Option (List ByteArray)
  | [] => none
  | a :: ch => match findW fs a ws with
    | some x => some x
    | none => findL fs ws ch
theorem getF_mem {fs : List (LKey × List ByteArray)} {k : LKey} {x : List ByteArray} : getF fs k = some x → (k, x) ∈ fs := by
  induction fs with
  | nil => intro h; cases h
  | cons f fs ih =>
    intro h
    rw [getF] at h
    split at h
    · rename_i hk
      obtain rfl := Option.some.inj h
      rw [← hk]
      exact List.mem_cons_self
    · exact List.mem_cons_of_mem _ (ih h)
/-- Find's answer. -/
def FoundAt (w : World) (e : Ending) : Option (List ByteArray) → Prop
  | some xs => ∃ v, e = .returned (.tuple #[v, .bool true]) ∧ Kd.R Kd.string 9 w 0 (fun _ => True) v xs
  | none => e = .returned (.tuple #[.slice none 0 0, .bool false])
set_option maxHeartbeats 4000000 in
set_option maxRecDepth 100000 in
theorem find_any (B M n : Nat) (fs : List (LKey × List ByteArray)) (A : Option Addr) (c : Nat) (chain ws : List ByteArray) (s : ByteArray) (w : World) (hG : Glob w) (hL : ListsAt w B M n fs) (hC : Kd.C Kd.string w A chain.length chain) (hc : chain.length ≤ c)
    (hW : pattern_Widths.f s = some ws) (hws : ∀ b ∈ ws, b.size ≤ maxLen) (hch : ∀ a ∈ chain, a.size ≤ maxLen) (hfs : ∀ f ∈ fs, f.2.length ≤ 1000) :
    Calls Tryd.prog 55 #[.pointer (some ⟨B, 0, none⟩), .slice A chain.length c, .string s] w fun e w' => FoundAt w' e (findL fs ws chain) ∧ Below w.heap.size w w' := by
  have hm : chain.length ≤ 9223372036854775807 := hC.2.1
  have HL := Aside0.mk hL
  have HG := Aside0.mk hG
  have HC := Aside0.mk hC
  have HWs := Aside0.mk hW
  have HS := Aside0.mk hws
  have HCh := Aside0.mk hch
  have HF := Aside0.mk hfs
  clear hL hG hC hW hws hch hfs
  go_enter Tryd.func55, Tryd.ntmps55
  go_wp2_with fail
  go_loopw [15] (fun i wr => ∃ (j : Nat), j ≤ chain.length ∧ i = .int .i64 j ∧ Aside0 (findL fs ws (chain.drop j) = findL fs ws chain) ∧ Aside0 (Below w.heap.size w wr)) (fun i _ => chain.length - (intOf i).toNat)
  case atStart => exact ⟨0, Nat.zero_le _, rfl, ⟨rfl⟩, ⟨Below.refl _ _⟩⟩
  case round =>
    obtain ⟨j, hj, rfl, HE, HB⟩ := hrel
    by_cases hlt : j < chain.length
    · obtain ⟨bk, o, rfl, hcs⟩ := C_strsD HC.out (by omega)
      have hx := pw_cell_below HB.out (hcs j hlt)
      rw [List.getD_eq_getElem?_getD, List.getElem?_eq_getElem hlt, Option.getD_some] at hx
      have hE := HE.out
      rw [List.drop_eq_getElem_cons hlt, findL] at hE
      have HCs := Aside0.mk hcs
      have ha := HCh.out _ (List.getElem_mem hlt)
      generalize chain[j] = a at hx hE ha
      have HE2 := Aside0.mk hE
      have HA := Aside0.mk ha
      clear hcs hE ha HE
      go_wp2_with fail
      refine (pattern_Widths.calls s ws _ HWs.out (HG.out.below HB.out)).mono ?_
      rintro e w1 ⟨v1, rfl, hR1, hb1⟩
      obtain ⟨A1, c1, rfl, hc1, hC1⟩ := Kd.R_reads hR1
      have hm1 : ws.length ≤ 9223372036854775807 := hC1.2.1
      have HC1 := Aside0.mk hC1
      have HB1 := Aside0.mk (below_step HB.out hb1)
      clear hR1 hC1 hb1 hc1 hx
      go_wp2_with fail
      go_loopw [22] (fun i wq => ∃ (q : Nat), q ≤ ws.length ∧ i = .int .i64 q ∧ Aside0 (findW fs a (ws.drop q) = findW fs a ws) ∧ Aside0 (Below w1.heap.size w1 wq)) (fun i _ => ws.length - (intOf i).toNat)
      case atStart => exact ⟨0, Nat.zero_le _, rfl, ⟨rfl⟩, ⟨Below.refl _ _⟩⟩
      case round =>
        obtain ⟨q, hq, rfl, HQ, HBq⟩ := hrel
        by_cases hlq : q < ws.length
        · obtain ⟨bk1, o1, rfl, hcs1⟩ := C_strsD HC1.out (by omega)
          have hy := pw_cell_below HBq.out (hcs1 q hlq)
          rw [List.getD_eq_getElem?_getD, List.getElem?_eq_getElem hlq, Option.getD_some] at hy
          have hQ := HQ.out
          rw [List.drop_eq_getElem_cons hlq, findW] at hQ
          have hb := HS.out _ (List.getElem_mem hlq)
          generalize ws[q] = b at hy hQ hb
          have HWq : Aside0 (Below w.heap.size w _) := ⟨below_step HB1.out HBq.out⟩
          obtain ⟨v, hrun, hres⟩ := HL.out.look HA.out hb
          have hm := pw_cell_below HWq.out (blk_cell HL.out.blk 0)
          have hr := hrun _ HWq.out
          have HQ2 := Aside0.mk hQ
          clear hrun hQ hcs1 hb
          rcases hres with ⟨rfl, hg⟩ | ⟨xs, hg, ad, c5, rfl, hc5, hC5⟩
          · have HQ3 := HQ2.out
            rw [hg] at HQ3
            have HQ4 := Aside0.mk HQ3
            clear hg HQ3
            go_wp2_with fail
            exact ⟨⟨q + 1, by omega, by go_num, HQ4, HBq⟩, by simp [intOf]; omega⟩
          · have HQ3 := HQ2.out
            rw [hg] at HQ3
            have HQ4 := Aside0.mk HQ3
            have HC5 := Aside0.mk (Kd.C_below hC5 HWq.out)
            have hl5 : xs.length ≤ c5 := hc5
            have HG5 := Aside0.mk hg
            clear hg HQ3 hC5 hc5
            go_wp2_with fail
            refine (slices_Clone.calls (some ad) c5 xs xs _ HC5.out hl5 (by unfold slices_Clone.f; rw [if_pos (by have := HF.out _ (getF_mem HG5.out); dsimp only at this; omega)]) (HG.out.below HWq.out)).mono ?_
            rintro e w5 ⟨v5, rfl, hR5, hb5⟩
            have HR5 := Aside0.mk (Kd.R_mono (Kd.R_lower hR5 (Nat.zero_le _)) (fun _ h => h))
            have HB5 := Aside0.mk (below_step HWq.out hb5)
            clear hR5 hb5
            go_wp2_with fail
            go_ret2
            exact ⟨by rw [← HE2.out, ← HQ4.out]; exact ⟨_, rfl, HR5.out⟩, HB5.out⟩
        · obtain rfl : q = ws.length := by omega
          have hQ := HQ.out
          rw [List.drop_length, findW] at hQ
          have HE3 := HE2.out
          rw [← hQ] at HE3
          have HE4 := Aside0.mk HE3
          clear hQ HE3
          go_wp2_with fail
          go_roundw
          case rel => exact ⟨j + 1, by omega, by go_num, HE4, ⟨below_step HB1.out HBq.out⟩⟩
          case measure => simp [intOf]; omega
    · obtain rfl : j = chain.length := by omega
      have hE := HE.out
      rw [List.drop_length, findL] at hE
      have HE2 := Aside0.mk hE
      clear hE
      go_wp2_with fail
      go_ret2
      exact ⟨by rw [← HE2.out]; exact rfl, HB.out⟩
end Go.Proofs.YthefdpioaapomaaDoor.Ext
