/- join.Load, walked by hand: all rows are read into the lists, or one is refused. -/
import Derived.Test.YthefdpioaapomaaDoorExtM
import Derived.Test.YthefdpioaapomaaDoorPA5
import Derived.Deep.QuietTactic
import Derived.BigQuiet
namespace Go.Proofs.YthefdpioaapomaaDoor.Ext
set_option linter.unusedVariables false
set_option linter.unusedSimpArgs false
open Go.RowKit Go.Proofs.YthefdpioaapomaaDoorW.PrintWords Go.Proofs.YthefdpioaapomaaDoorW.PrintLast Go.Proofs.YthefdpioaapomaaDoorW.PrintMore Go.Maps Go.WideMaps Go.Proofs.YthefdpioaapomaaDoor.PA

def loadGo : List S31 → List (LKey × List ByteArray) → Int × Int × List (LKey × List ByteArray)
  | [], fs => (0, 0, fs)
  | r :: rs, fs => if (rowL fs (r.f1.drop 1)).1 = 0 then loadGo rs (rowL fs (r.f1.drop 1)).2 else (r.f0, (rowL fs (r.f1.drop 1)).1, fs)
/-- Load's answer. -/
def LoadsAt (w : World) (e : Ending) (x : Int × Int × List (LKey × List ByteArray)) : Prop :=
  (x.2.1 = 0 ∧ ∃ B M n, e = .returned (.tuple #[.pointer (some ⟨B, 0, none⟩), .int .i64 0, .int .i64 0]) ∧ ListsAt w B M n x.2.2) ∨ (x.2.1 ≠ 0 ∧ e = .returned (.tuple #[.pointer none, .int .i64 x.1, .int .i64 x.2.1]))
set_option maxHeartbeats 4000000 in
set_option maxRecDepth 100000 in
theorem load_any (k : Nat) (l0 rs : List S31) (A0 : Option Addr) (c0 : Nat) (w : World) (hG : Glob w) (hr0 : Kd.C k31 w A0 l0.length l0) (hc0 : l0.length ≤ c0) (hf : rows_Of.f k l0 ⟨#[108, 105, 115, 116]⟩ = some rs) (hn : rs.length < maxLen) (hok : ∀ r ∈ rs, r.f1 ≠ [] ∧ ∀ s ∈ r.f1.drop 1, WordOk s) :
    Calls Tryd.prog 59 #[.slice A0 l0.length c0] w fun e w' => LoadsAt w' e (loadGo rs []) ∧ Below w.heap.size w w' := by
  have HR := Aside0.mk hr0
  have HG := Aside0.mk hG
  have HF := Aside0.mk hf
  have HN := Aside0.mk hn
  have HK := Aside0.mk hok
  clear hr0 hG hf hok hn
  have hmm := @run_makeMap Tryd.prog
  go_enter Tryd.func59, Tryd.ntmps59
  go_wp2_with fail
  refine (rows_Of.calls k A0 c0 l0 _ rs _ (Kd.C_alloc (Kd.C_alloc HR.out _) _) hc0 HF.out ((HG.out.alloc _).alloc _)).mono ?_
  rintro e w1 ⟨v, rfl, hS, hb⟩
  have HS1 := Aside0.mk (Kd.S_mono (Kd.S_bound hS) (ok' := fun q => w.heap.size + 2 ≤ q) (fun q hq => by have h1 := hq.2.1; simp at h1; omega))
  obtain ⟨A, c, rfl, hc, _⟩ := Kd.S_reads hS
  have HL1 := Aside0.mk ((ListsAt.made w).below hb)
  have HB1 : Aside0 (Below w.heap.size w w1) := ⟨below_step (below_alloc (below_alloc (Below.refl _ _) _) _) hb⟩
  have HC1 := Aside0.mk hc
  have hlen : rs.length ≤ 9223372036854775807 := by have := HN.out; unfold maxLen at this; omega
  clear hS hb hc
  go_wp2_with fail
  go_loopw [15] (fun i wr => ∃ (j : Nat) (fs : List (LKey × List ByteArray)), j ≤ rs.length ∧ i = .int .i64 j ∧ Aside0 (loadGo (rs.drop j) fs = loadGo rs []) ∧ Aside0 (ListsAt wr (w.heap.size + 1) w.heap.size j fs) ∧ Aside0 (Kd.S k31 31 wr (w.heap.size + 2) (fun q => w.heap.size + 2 ≤ q) (.slice A rs.length c) rs) ∧ Aside0 (Below w.heap.size w wr)) (fun i _ => rs.length - (intOf i).toNat)
  case atStart => exact ⟨0, [], Nat.zero_le _, rfl, ⟨rfl⟩, HL1, ⟨Kd.S_lower HS1.out (by simp)⟩, HB1⟩
  case round =>
    obtain ⟨j, fs, hj, rfl, HE, HL, HS, HB⟩ := hrel
    by_cases hlt : j < rs.length
    · have hE := HE.out
      rw [List.drop_eq_getElem_cons hlt, loadGo] at hE
      have hrd : rd_T31 rs (j : Int) = rs[j] := by simp [rd_T31, hlt]
      obtain ⟨ad, A1, c1, hA, hx0, hx1, hc1, hC⟩ := at_T31 (Kd.S_reads' HS.out).2.2 (j : Int) (by omega) (by omega)
      rw [hrd] at hx0 hx1 hc1 hC
      rw [Int.toNat_natCast] at hx0 hx1
      obtain ⟨hne, hws⟩ := HK.out _ (List.getElem_mem hlt)
      generalize rs[j] = row at hE hx0 hx1 hc1 hC hne hws
      obtain ⟨h, t, hf1⟩ : ∃ h t, row.f1 = h :: t := by
        cases hr : row.f1 with
        | nil => exact absurd hr hne
        | cons h t => exact ⟨h, t, rfl⟩
      have hd : row.f1.drop 1 = t := by rw [hf1]; rfl
      have hl1 : row.f1.length = t.length + 1 := by rw [hf1]; rfl
      have hCd := Kd.C_drop (m := 1) hC (by omega) hc1
      rw [hd] at hCd hE hws
      rw [hl1] at hx1 hc1
      clear hf1 hd hne hrd hC
      obtain ⟨A2, hA2⟩ : ∃ A2, A2 = (if c1 = 1 then A1 else A1.map (·.add (1 * Kd.string.sz))) := ⟨_, rfl⟩
      rw [← hA2] at hCd
      have HE2 := Aside0.mk hE
      have HC2 := Aside0.mk hCd
      have HW := Aside0.mk hws
      subst hA
      clear hE hCd hws hl1
      by_cases h1 : c1 = 1
      · subst h1
        rw [if_pos rfl] at hA2
        subst hA2
        obtain rfl : t = [] := by cases t with | nil => rfl | cons a l => simp only [List.length_cons] at hc1; omega
        go_wp2_with fail
        refine (row_any fs [] j (w.heap.size + 1) w.heap.size 0 A2 _ ((HG.out.below HB.out).alloc _) (HL.out.below (below_alloc (Below.refl _ _) _)) (Kd.C_alloc HC2.out _) (Nat.le_refl _) HW.out (Nat.lt_trans hlt HN.out)).mono ?_
        rintro e w2 ⟨rfl, hL2, hg2⟩
        have HB2 : Aside0 (Below w.heap.size w w2) := ⟨(below_alloc HB.out _).grown hg2 (by have := below_size HB.out; simp; omega) (fun q hq => by cases hq; exact Nat.le_refl _)⟩
        have HS2 := Aside0.mk (Kd.S_grown (Kd.S_alloc HS.out _) hg2 (fun q hq e => by cases e; omega))
        have HL2 := Aside0.mk hL2
        have HX2 := Aside0.mk (blk_cell (blk_grown (blk_new wr _) hg2 (fun e => by have h2 := HL.out.map; obtain ⟨_, h3, _⟩ := h2; have h4 := h3.lt; injection e with e; omega)) 0)
        clear hL2 hg2
        obtain ⟨x, hx⟩ : ∃ x, x = rowL fs [] := ⟨_, rfl⟩
        rw [← hx] at HE2 HL2 ⊢
        obtain ⟨er, fs2⟩ := x
        clear hx
        dsimp only at HE2 HL2 ⊢
        by_cases h0 : er = 0
        · subst h0
          have hE2 := HE2.out
          rw [if_pos rfl] at hE2
          have HE3 := Aside0.mk hE2
          clear hE2 HE2
          go_wp2_with fail
          go_roundw
          case rel => exact ⟨j + 1, fs2, by omega, by go_num, HE3, HL2, HS2, HB2⟩
          case measure => simp [intOf]; omega
        · have hE2 := HE2.out
          rw [if_neg h0] at hE2
          have HE3 := Aside0.mk hE2
          have f1 : (er == 0) = false := beq_eq_false_iff_ne.2 h0
          have f2 : (er != 0) = true := bne_iff_ne.2 h0
          have f3 : decide (er = 0) = false := decide_eq_false h0
          clear hE2 HE2
          have hx2 := HX2.out
          go_wp2_with fail
          go_quiet (fail)
          go_wp2_with fail
          refine bodyPost_ret (v := .tuple #[.pointer none, .int .i64 row.f0, .int .i64 er]) (by simp [results, Tryd.results59, go_sem]) rfl ?_
          exact ⟨by rw [← HE3.out]; exact .inr ⟨h0, rfl⟩, pw_below_drewN HB2.out _⟩
      · rw [if_neg h1] at hA2
        subst hA2
        go_wp2_with fail
        refine (row_any fs t j (w.heap.size + 1) w.heap.size (c1 - 1) _ _ ((HG.out.below HB.out).alloc _) (HL.out.below (below_alloc (Below.refl _ _) _)) (Kd.C_alloc HC2.out _) (by omega) HW.out (Nat.lt_trans hlt HN.out)).mono ?_
        rintro e w2 ⟨rfl, hL2, hg2⟩
        have HB2 : Aside0 (Below w.heap.size w w2) := ⟨(below_alloc HB.out _).grown hg2 (by have := below_size HB.out; simp; omega) (fun q hq => by cases hq; exact Nat.le_refl _)⟩
        have HS2 := Aside0.mk (Kd.S_grown (Kd.S_alloc HS.out _) hg2 (fun q hq e => by cases e; omega))
        have HL2 := Aside0.mk hL2
        have HX2 := Aside0.mk (blk_cell (blk_grown (blk_new wr _) hg2 (fun e => by have h2 := HL.out.map; obtain ⟨_, h3, _⟩ := h2; have h4 := h3.lt; injection e with e; omega)) 0)
        clear hL2 hg2
        obtain ⟨x, hx⟩ : ∃ x, x = rowL fs t := ⟨_, rfl⟩
        rw [← hx] at HE2 HL2 ⊢
        obtain ⟨er, fs2⟩ := x
        clear hx
        dsimp only at HE2 HL2 ⊢
        by_cases h0 : er = 0
        · subst h0
          have hE2 := HE2.out
          rw [if_pos rfl] at hE2
          have HE3 := Aside0.mk hE2
          clear hE2 HE2
          go_wp2_with fail
          go_roundw
          case rel => exact ⟨j + 1, fs2, by omega, by go_num, HE3, HL2, HS2, HB2⟩
          case measure => simp [intOf]; omega
        · have hE2 := HE2.out
          rw [if_neg h0] at hE2
          have HE3 := Aside0.mk hE2
          have f1 : (er == 0) = false := beq_eq_false_iff_ne.2 h0
          have f2 : (er != 0) = true := bne_iff_ne.2 h0
          have f3 : decide (er = 0) = false := decide_eq_false h0
          clear hE2 HE2
          have hx2 := HX2.out
          go_wp2_with fail
          go_quiet (fail)
          go_wp2_with fail
          refine bodyPost_ret (v := .tuple #[.pointer none, .int .i64 row.f0, .int .i64 er]) (by simp [results, Tryd.results59, go_sem]) rfl ?_
          exact ⟨by rw [← HE3.out]; exact .inr ⟨h0, rfl⟩, pw_below_drewN HB2.out _⟩
    · obtain rfl : j = rs.length := by omega
      have hE := HE.out
      rw [List.drop_length, loadGo] at hE
      have HE2 := Aside0.mk hE
      clear hE
      go_wp2_with fail
      refine bodyPost_ret (v := .tuple #[.pointer (some ⟨w.heap.size + 1, 0, none⟩), .int .i64 0, .int .i64 0]) (by simp [results, Tryd.results59, go_sem]) rfl ?_
      exact ⟨by rw [← HE2.out]; exact .inl ⟨rfl, _, _, _, rfl, HL.out⟩, HB.out⟩
end Go.Proofs.YthefdpioaapomaaDoor.Ext
