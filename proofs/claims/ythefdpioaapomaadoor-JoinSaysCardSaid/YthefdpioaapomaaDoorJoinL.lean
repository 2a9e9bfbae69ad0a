/- (*join.Lists).Join, walked by hand: the texts filled one into the other, from the last. -/
import Derived.Test.YthefdpioaapomaaDoorFindL
import Derived.Test.YthefdpioaapomaaDoorExtF
import Derived.WalkSpells
import Derived.WalkLawsBesides
namespace Go.Proofs.YthefdpioaapomaaDoor.Ext
set_option linter.unusedVariables false
set_option linter.unusedSimpArgs false
open Go.RowKit Go.Proofs.YthefdpioaapomaaDoorW.PrintWords Go.Proofs.YthefdpioaapomaaDoorW.PrintLast Go.Proofs.YthefdpioaapomaaDoorW.PrintMore Go.Maps Go.WideMaps Go.Proofs.YthefdpioaapomaaDoor.PJ

def fillX (a : List ByteArray) (t : ByteArray) : ByteArray := ⟨(fillB a t.data.toList).toArray⟩
theorem fillX_size (a : List ByteArray) (t : ByteArray) : (fillX a t).size = (fillB a t.data.toList).length := by rw [Lib.size_eq]; rfl
theorem sign_some {a : List ByteArray} {l : List UInt8} {x : ByteArray} (h : signOf a l = some x) : x ∈ a ∧ 3 ≤ l.length := by
  match l, h with
  | b0 :: b1 :: b2 :: l, h =>
    have h : (if b0 = 123 ∧ b2 = 125 ∧ 48 ≤ b1.toNat ∧ b1.toNat ≤ 57 then a[b1.toNat - 48]? else none) = some x := h
    by_cases h1 : b0 = 123 ∧ b2 = 125 ∧ 48 ≤ b1.toNat ∧ b1.toNat ≤ 57
    · skip
      rw [if_pos h1] at h
      exact ⟨List.mem_of_getElem? h, by simp⟩
    · rw [if_neg h1] at h
      cases h
theorem fillF_len (a : List ByteArray) (m : Nat) (hm : 3 ≤ m) (ha : ∀ x ∈ a, x.size ≤ m) : ∀ (n : Nat) (l : List UInt8), 3 * (fillF a n l).length ≤ l.length * m
  | 0, l => by simp [fillF]
  | n + 1, [] => by simp [fillF]
  | n + 1, b :: l => by
    rw [fillF]
    cases h : signOf a (b :: l) with
    | none =>
      have := fillF_len a m hm ha n l
      simp only [List.length_cons, Nat.add_mul]
      omega
    | some x =>
      obtain ⟨hx, hl⟩ := sign_some h
      have h1 := fillF_len a m hm ha n (l.drop 2)
      have h2 := ha x hx
      rw [Lib.size_eq] at h2
      simp only [List.length_cons] at hl ⊢
      rw [List.length_drop, Nat.sub_mul] at h1
      have h3 : 2 * m ≤ l.length * m := Nat.mul_le_mul_right m (by omega)
      simp only [List.length_append, Nat.add_mul]
      omega
/-- What a fill may weigh. -/
def weigh : Nat → Nat
  | 0 => 30
  | j + 1 => 40 * weigh j
theorem weigh_mono (j : Nat) : weigh j ≤ weigh (j + 1) := by rw [weigh]; omega
theorem weigh_up {i j : Nat} (h : i ≤ j) : weigh i ≤ weigh j := by
  induction h with
  | refl => exact Nat.le_refl _
  | step _ ih => exact Nat.le_trans ih (weigh_mono _)
theorem weigh_low (j : Nat) : 30 ≤ weigh j := weigh_up (Nat.zero_le j)
theorem weigh_most {j : Nat} (h : j ≤ 7) : weigh j ≤ 140737488355328 := Nat.le_trans (weigh_up h) (by decide)
theorem fillX_le {a : List ByteArray} {t : ByteArray} (ht : t.size ≤ 120) {j : Nat} (ha : ∀ x ∈ a, x.size ≤ weigh j) : (fillX a t).size ≤ weigh (j + 1) := by
  have h := fillF_len a (weigh j) (by have := weigh_low j; omega) ha t.data.toList.length t.data.toList
  rw [fillX_size]
  have h2 : t.data.toList.length * weigh j ≤ 120 * weigh j := Nat.mul_le_mul_right _ (by rwa [← Lib.size_eq])
  rw [weigh]
  unfold fillB
  omega
abbrev eB : ByteArray := ByteArray.empty
def midJ (l : List ByteArray) (t : ByteArray) : Nat → ByteArray → ByteArray
  | 0, s => s
  | i + 1, s => midJ l t i (fillX [l.getD (i + 1) eB, s] t)
def joinT (fs : List (LKey × List ByteArray)) (ws chain l : List ByteArray) : ByteArray × Bool :=
  if l.length = 0 then (⟨#[]⟩, true) else if l.length = 1 then (l.getD 0 eB, true) else
  match findL fs ws chain with
  | none => (⟨#[]⟩, false)
  | some t => if l.length = 2 then (fillX l (t.getD 0 eB), true) else
    (fillX [l.getD 0 eB, midJ l (t.getD 2 eB) (l.length - 3) (fillX [l.getD (l.length - 2) eB, l.getD (l.length - 1) eB] (t.getD 3 eB))] (t.getD 1 eB), true)
theorem findL_mem {fs : List (LKey × List ByteArray)} {ws : List ByteArray} {x : List ByteArray} : ∀ {ch : List ByteArray}, findL fs ws ch = some x → ∃ f ∈ fs, f.2 = x := by
  have inner : ∀ (a : ByteArray) (ws : List ByteArray), findW fs a ws = some x → ∃ f ∈ fs, f.2 = x := by
    intro a ws
    induction ws with
    | nil => intro h; cases h
    | cons b ws ih =>
      intro h
      rw [findW] at h
      split at h
      · rename_i y hy
        obtain rfl := Option.some.inj h
        exact ⟨_, getF_mem hy, rfl⟩
      · exact ih h
  intro ch
  induction ch with
  | nil => intro h; cases h
  | cons a ch ih =>
    intro h
    rw [findL] at h
    split at h
    · rename_i y hy
      obtain rfl := Option.some.inj h
      exact inner a ws hy
    · exact ih h
theorem fill2_any (t x y : ByteArray) (w : World) (g : Nat) (hg : w.heap.size = g) (ht : t.size ≤ 120) (hs : (fillX [x, y] t).size ≤ 140737488355328) (r : ByteArray) (hr : fillX [x, y] t = r) :
    Calls Tryd.prog 87 #[.string t, .slice (some ⟨g, 0, none⟩) 2 2] (w.alloc (.cells #[.string x, .string y] 9)).drew fun e w' => e = .returned (.string r) ∧ Below w.heap.size w w' := by
  subst hg
  subst hr
  refine (fill_any t (some ⟨w.heap.size, 0, none⟩) 2 [x, y] _ (Kd.C_drew (litM w [x, y] (by simp))) (Nat.le_refl _) (by omega) (by rwa [← fillX_size])).mono ?_
  rintro e w' ⟨rfl, hb⟩
  exact ⟨rfl, below_step (below_drew (below_alloc (Below.refl _ _) _)) hb⟩
theorem fill_two (t : ByteArray) (A : Option Addr) (c : Nat) (l : List ByteArray) (w : World) (h2 : l.length = 2) (hC : Kd.C Kd.string w A 2 l) (hc : 2 ≤ c) (ht : t.size ≤ 120) (hs : (fillX l t).size ≤ 140737488355328) :
    Calls Tryd.prog 87 #[.string t, .slice A 2 c] w fun e w' => e = .returned (.string (fillX l t)) ∧ Below w.heap.size w w' := by
  have h := fill_any t A c l w (by rw [h2]; exact hC) (by omega) (by omega) (by rwa [← fillX_size])
  rw [h2] at h
  exact h
set_option maxHeartbeats 4000000 in
set_option maxRecDepth 100000 in
theorem join_any (B M n : Nat) (fs : List (LKey × List ByteArray)) (A A3 : Option Addr) (c c3 : Nat) (chain ws l : List ByteArray) (s : ByteArray) (w : World) (hG : Glob w) (hL : ListsAt w B M n fs) (hC : Kd.C Kd.string w A chain.length chain) (hc : chain.length ≤ c) (hC3 : Kd.C Kd.string w A3 l.length l) (hc3 : l.length ≤ c3)
    (hW : pattern_Widths.f s = some ws) (hws : ∀ b ∈ ws, b.size ≤ maxLen) (hch : ∀ a ∈ chain, a.size ≤ maxLen) (hfs : ∀ f ∈ fs, f.2.length = 4 ∧ ∀ t ∈ f.2, t.size ≤ 120) (hl8 : l.length ≤ 8) (hl30 : ∀ x ∈ l, x.size ≤ 30) :
    Calls Tryd.prog 54 #[.pointer (some ⟨B, 0, none⟩), .slice A chain.length c, .string s, .slice A3 l.length c3] w fun e w' => e = .returned (.tuple #[.string (joinT fs ws chain l).1, .bool (joinT fs ws chain l).2]) ∧ Below w.heap.size w w' := by
  obtain ⟨r, hr⟩ : ∃ r, r = joinT fs ws chain l := ⟨_, rfl⟩
  rw [← hr]
  obtain ⟨rs, rb⟩ := r
  have HR := Aside0.mk hr
  have HL := Aside0.mk hL
  have HG := Aside0.mk hG
  have HC := Aside0.mk hC
  have HC3 := Aside0.mk hC3
  have HWs := Aside0.mk hW
  have HS := Aside0.mk hws
  have HCh := Aside0.mk hch
  have HF := Aside0.mk hfs
  have H30 := Aside0.mk hl30
  clear hL hG hC hC3 hW hws hch hfs hl30 hr
  obtain ⟨nl, hnl⟩ : ∃ m, m = l.length := ⟨_, rfl⟩
  rw [← hnl] at hc3 hl8 ⊢
  have HN := Aside0.mk hnl
  clear hnl
  dsimp only
  go_enter Tryd.func54, Tryd.ntmps54
  by_cases h0 : nl = 0
  · subst h0
    have hR := HR.out
    rw [joinT, if_pos HN.out.symm] at hR
    obtain ⟨rfl, rfl⟩ := Prod.mk.inj hR
    clear hR
    go_wp2_with fail
    go_ret2
    exact ⟨rfl, Below.refl _ _⟩
  by_cases h1 : nl = 1
  · subst h1
    have hR := HR.out
    rw [joinT, if_neg (by have := HN.out; omega), if_pos HN.out.symm] at hR
    obtain ⟨rfl, rfl⟩ := Prod.mk.inj hR
    obtain ⟨bk, o, rfl, hcs⟩ := C_strsD HC3.out (by have := HN.out; omega)
    have hx := hcs 0 (by have := HN.out; omega)
    rw [Nat.add_zero] at hx
    clear hR hcs
    go_wp2_with fail
    go_ret2
    exact ⟨rfl, Below.refl _ _⟩
  have f1 : ((nl : Int) == 0) = false := by simp; omega
  have f2 : ((nl : Int) == 1) = false := by simp; omega
  have f3 : (2 : Int) ≤ (nl : Int) := by omega
  go_wp2_with fail
  refine (find_any B M n fs A c chain ws s _ HG.out HL.out HC.out hc HWs.out HS.out HCh.out (fun f hf => by have := (HF.out f hf).1; omega)).mono ?_
  rintro e w1 ⟨hF, hb1⟩
  have HB1 := Aside0.mk hb1
  clear hb1
  obtain ⟨ft, hft⟩ : ∃ x, x = findL fs ws chain := ⟨_, rfl⟩
  rw [← hft] at hF
  have hR := HR.out
  rw [joinT, if_neg (by rw [← HN.out]; exact h0), if_neg (by rw [← HN.out]; exact h1), ← hft] at hR
  cases ft with
  | none =>
    obtain ⟨rfl, rfl⟩ := Prod.mk.inj hR
    obtain rfl := hF
    clear hR hft
    go_wp2_with fail
    go_ret2
    exact ⟨rfl, HB1.out⟩
  | some t =>
    obtain ⟨v, rfl, hRv⟩ := hF
    obtain ⟨A5, c5, rfl, hc5, hC5⟩ := Kd.R_reads hRv
    obtain ⟨f, hf, rfl⟩ := findL_mem hft.symm
    obtain ⟨h4, h120⟩ := HF.out f hf
    obtain ⟨bk5, o5, rfl, hcs5⟩ := C_strsD hC5 (by omega)
    obtain ⟨bk, o, rfl, hcs⟩ := C_strsD HC3.out (by have := HN.out; omega)
    dsimp only at hR
    obtain ⟨t0, ht0⟩ : ∃ x, x = f.2.getD 0 eB := ⟨_, rfl⟩
    obtain ⟨t1, ht1⟩ : ∃ x, x = f.2.getD 1 eB := ⟨_, rfl⟩
    obtain ⟨t2, ht2⟩ : ∃ x, x = f.2.getD 2 eB := ⟨_, rfl⟩
    obtain ⟨t3, ht3⟩ : ∃ x, x = f.2.getD 3 eB := ⟨_, rfl⟩
    have small : ∀ j, j < 4 → (f.2.getD j eB).size ≤ 120 := fun j hj => by
      rw [List.getD_eq_getElem?_getD, List.getElem?_eq_getElem (by omega)]
      exact h120 _ (List.getElem_mem _)
    have s0 := small 0 (by omega)
    have s1 := small 1 (by omega)
    have s2 := small 2 (by omega)
    have s3 := small 3 (by omega)
    have hy0 := hcs5 0 (by omega)
    have hy1 := hcs5 1 (by omega)
    have hy2 := hcs5 2 (by omega)
    have hy3 := hcs5 3 (by omega)
    rw [← ht0] at hy0 s0
    rw [Nat.add_zero] at hy0
    rw [← ht1] at hy1 s1
    rw [← ht2] at hy2 s2
    rw [← ht3] at hy3 s3
    rw [← ht0, ← ht1, ← ht2, ← ht3, ← HN.out] at hR
    have S0 := Aside0.mk s0
    have S1 := Aside0.mk s1
    have S2 := Aside0.mk s2
    have S3 := Aside0.mk s3
    have Y0 := Aside0.mk hy0
    have Y1 := Aside0.mk hy1
    have Y2 := Aside0.mk hy2
    have Y3 := Aside0.mk hy3
    have HRr := Aside0.mk hR
    have HCs : Aside0 (∀ j, j < nl → w1.cell? ⟨bk, o + j, none⟩ = some (.string (l.getD j eB))) := ⟨fun j hj => pw_cell_below HB1.out (hcs j (by rw [← HN.out]; exact hj))⟩
    have H5n : Aside0 (f.2.length = 4) := ⟨h4⟩
    have H30' : Aside0 (∀ j, j < nl → (l.getD j eB).size ≤ 30) := ⟨fun j hj => by
      rw [List.getD_eq_getElem?_getD, List.getElem?_eq_getElem (by rw [← HN.out]; exact hj)]
      exact H30.out _ (List.getElem_mem _)⟩
    have l4 : f.2.length = 4 := h4
    obtain ⟨n4, hn4⟩ : ∃ m, m = f.2.length := ⟨_, rfl⟩
    rw [← hn4] at hc5 l4 ⊢
    subst l4
    clear hR ht0 ht1 ht2 ht3 s0 s1 s2 s3 small hcs hcs5 hC5 hRv h120 h4 hft hf hn4 hy0 hy1 hy2 hy3
    by_cases h2 : nl = 2
    · subst h2
      have hR := HRr.out
      rw [if_pos rfl] at hR
      obtain ⟨rfl, rfl⟩ := Prod.mk.inj hR
      have hlen : l.length = 2 := HN.out.symm
      have hx0 := Y0.out
      clear hR
      have HC6 := Aside0.mk (Kd.C_below HC3.out HB1.out)
      rw [hlen] at HC6
      have HSz : Aside0 ((fillX l t0).size ≤ 140737488355328) := ⟨Nat.le_trans (fillX_le S0.out (j := 0) (fun x hx => H30.out x hx)) (weigh_most (by omega))⟩
      have HLn := Aside0.mk hlen
      clear hlen
      go_wp2_with fail
      refine (fill_two t0 _ c3 l _ HLn.out HC6.out hc3 S0.out HSz.out).mono ?_
      rintro e w2 ⟨rfl, hb⟩
      go_wp2_with fail
      go_ret2
      exact ⟨rfl, below_step HB1.out hb⟩
    · have hR := HRr.out
      rw [if_neg h2] at hR
      have f4 : ((nl : Int) == 2) = false := by simp; omega
      have f5 : (3 : Int) ≤ (nl : Int) := by omega
      have f6 : (nl : Int) ≤ 8 := by omega
      clear f1 f2 h0 h1 h2
      obtain ⟨y2, hy2⟩ : ∃ x, x = l.getD (nl - 2) eB := ⟨_, rfl⟩
      obtain ⟨y1, hy1⟩ : ∃ x, x = l.getD (nl - 1) eB := ⟨_, rfl⟩
      obtain ⟨y0, hy0⟩ : ∃ x, x = l.getD 0 eB := ⟨_, rfl⟩
      have X2 : Aside0 (w1.cell? ⟨bk, o + (nl - 2), none⟩ = some (.string y2)) := ⟨by rw [hy2]; exact HCs.out _ (by omega)⟩
      have X1 : Aside0 (w1.cell? ⟨bk, o + (nl - 1), none⟩ = some (.string y1)) := ⟨by rw [hy1]; exact HCs.out _ (by omega)⟩
      have Q2 : Aside0 (y2.size ≤ 30) := ⟨by rw [hy2]; exact H30'.out _ (by omega)⟩
      have Q1 : Aside0 (y1.size ≤ 30) := ⟨by rw [hy1]; exact H30'.out _ (by omega)⟩
      have Q0 : Aside0 (y0.size ≤ 30) := ⟨by rw [hy0]; exact H30'.out _ (by omega)⟩
      have X00 : Aside0 (w1.cell? ⟨bk, o, none⟩ = some (.string y0)) := ⟨by rw [hy0]; exact HCs.out 0 (by omega)⟩
      rw [← hy2, ← hy1, ← hy0] at hR
      clear hy2 hy1 hy0 HR HRr
      obtain ⟨s0, hs0⟩ : ∃ x, fillX [y2, y1] t3 = x := ⟨_, rfl⟩
      rw [hs0] at hR
      have HR3 := Aside0.mk hR
      clear hR
      have FR := Aside0.mk hs0
      have SZ1 : Aside0 ((fillX [y2, y1] t3).size ≤ weigh 1) := ⟨fillX_le S3.out (j := 0) (by intro x hx; rcases List.mem_cons.1 hx with rfl | hx; exact Q2.out; rcases List.mem_cons.1 hx with rfl | hx; exact Q1.out; cases hx)⟩
      have SZ : Aside0 ((fillX [y2, y1] t3).size ≤ 140737488355328) := ⟨Nat.le_trans SZ1.out (weigh_most (by omega))⟩
      have ST := S3
      have l2 : nl - 2 < nl := by omega
      have l1 : nl - 1 < nl := by omega
      clear hs0
      go_wp2_with fail
      have e2 : wrap64 ((nl : Int) - 2) = ((nl - 2 : Nat) : Int) := by unfold wrap64; omega
      have e1 : wrap64 ((nl : Int) - 1) = ((nl - 1 : Nat) : Int) := by unfold wrap64; omega
      refine start_ (n := 16) (S := fun w' => w'.cell? ⟨bk5, o5 + 3, none⟩ = some (.string t3) ∧ w'.cell? ⟨bk, o + (nl - 2), none⟩ = some (.string y2) ∧ w'.cell? ⟨bk, o + (nl - 1), none⟩ = some (.string y1)) (ds := []) #[false, false, false, false, false, false, false, false, false, false, false, false, false, false, false, false] (by kernel_rfl) rfl rfl ⟨pw_cell_below (below_drew (Below.refl _ _)) Y3.out, pw_cell_below (below_drew (Below.refl _ _)) X2.out, pw_cell_below (below_drew (Below.refl _ _)) X1.out⟩ (fun hHeld => ?_)
      refine pure_ (i := 0) (N := some 43) (v := ?_) (a' := ?_) #[true, false, false, false, false, false, false, false, false, false, false, false, false, false, false, false] rfl rfl (by kernel_rfl) (fun _ _ _ h => h) (Or.inl ⟨by rfl, ?_⟩) ?_ ?_
      rotate_left
      · intro w'
        go_simp
        with_reducible rfl
      rotate_left
      · simp only [Act.put, List.setIfInBounds_toArray, List.set_cons_zero, List.set_cons_succ, i64_w, i32_w]
        rfl
      refine pure_ (i := 1) (N := some 44) (v := ?_) (a' := ?_) #[true, true, false, false, false, false, false, false, false, false, false, false, false, false, false, false] rfl rfl (by kernel_rfl) (fun _ _ _ h => h) (Or.inl ⟨by rfl, ?_⟩) ?_ ?_
      rotate_left
      · intro w'
        go_simp
        with_reducible rfl
      rotate_left
      · simp only [Act.put, List.setIfInBounds_toArray, List.set_cons_zero, List.set_cons_succ, i64_w, i32_w]
        rfl
      refine pure_ (i := 3) (N := some 46) (v := ?_) (a' := ?_) #[true, true, false, true, false, false, false, false, false, false, false, false, false, false, false, false] rfl rfl (by kernel_rfl) (fun _ _ _ h => h) (Or.inl ⟨by rfl, ?_⟩) ?_ ?_
      rotate_left
      · intro w'
        go_simp
        with_reducible rfl
      rotate_left
      · simp only [Act.put, List.setIfInBounds_toArray, List.set_cons_zero, List.set_cons_succ, i64_w, i32_w]
        rfl
      refine pure_ (i := 4) (N := some 47) (v := ?_) (a' := ?_) #[true, true, false, true, true, false, false, false, false, false, false, false, false, false, false, false] rfl rfl (by kernel_rfl) (fun _ _ _ h => h) (Or.inl ⟨by rfl, ?_⟩) ?_ ?_
      rotate_left
      · intro w'
        go_simp
        with_reducible rfl
      rotate_left
      · simp only [Act.put, List.setIfInBounds_toArray, List.set_cons_zero, List.set_cons_succ, i64_w, i32_w]
        rfl
      refine pure_ (i := 5) (N := some 48) (v := ?_) (a' := ?_) #[true, true, false, true, true, true, false, false, false, false, false, false, false, false, false, false] rfl rfl (by kernel_rfl) (fun _ _ _ h => h) (Or.inl ⟨by rfl, ?_⟩) ?_ ?_
      rotate_left
      · intro w'
        go_simp
        with_reducible rfl
      rotate_left
      · simp only [Act.put, List.setIfInBounds_toArray, List.set_cons_zero, List.set_cons_succ, i64_w, i32_w]
        rfl
      refine pure_ (i := 6) (N := some 49) (v := ?_) (a' := ?_) #[true, true, false, true, true, true, true, false, false, false, false, false, false, false, false, false] rfl rfl (by kernel_rfl) (fun _ _ _ h => h) (Or.inl ⟨by rfl, ?_⟩) ?_ ?_
      rotate_left
      · intro w'
        go_simp
        with_reducible rfl
      rotate_left
      · simp only [Act.put, List.setIfInBounds_toArray, List.set_cons_zero, List.set_cons_succ, i64_w, i32_w]
        rfl
      refine pure_ (i := 8) (N := some 51) (v := ?_) (a' := ?_) #[true, true, false, true, true, true, true, false, true, false, false, false, false, false, false, false] rfl rfl (by kernel_rfl) (fun _ _ _ h => h) (Or.inl ⟨by rfl, ?_⟩) ?_ ?_
      rotate_left
      · intro w'
        go_simp
        with_reducible rfl
      rotate_left
      · simp only [Act.put, List.setIfInBounds_toArray, List.set_cons_zero, List.set_cons_succ, i64_w, i32_w]
        rfl
      refine pure_ (i := 9) (N := some 52) (v := ?_) (a' := ?_) #[true, true, false, true, true, true, true, false, true, true, false, false, false, false, false, false] rfl rfl (by kernel_rfl) (fun _ _ _ h => h) (Or.inl ⟨by rfl, ?_⟩) ?_ ?_
      rotate_left
      · intro w'
        go_simp
        with_reducible rfl
      rotate_left
      · simp only [Act.put, List.setIfInBounds_toArray, List.set_cons_zero, List.set_cons_succ, i64_w, i32_w]
        rfl
      refine pure_ (i := 10) (N := some 53) (v := ?_) (a' := ?_) #[true, true, false, true, true, true, true, false, true, true, true, false, false, false, false, false] rfl rfl (by kernel_rfl) (fun _ _ _ h => h) (Or.inl ⟨by rfl, ?_⟩) ?_ ?_
      rotate_left
      · intro w'
        go_simp
        with_reducible rfl
      rotate_left
      · simp only [Act.put, List.setIfInBounds_toArray, List.set_cons_zero, List.set_cons_succ, i64_w, i32_w]
        rfl
      refine pure_ (i := 11) (N := some 54) (v := ?_) (a' := ?_) #[true, true, false, true, true, true, true, false, true, true, true, true, false, false, false, false] rfl rfl (by kernel_rfl) (fun _ _ _ h => h) (Or.inl ⟨by rfl, ?_⟩) ?_ ?_
      rotate_left
      · intro w'
        go_simp
        with_reducible rfl
      rotate_left
      · simp only [Act.put, List.setIfInBounds_toArray, List.set_cons_zero, List.set_cons_succ, i64_w, i32_w]
        rfl
      refine take_ (i := 2) (N := some 45) (v := ?_) (a' := ?_) #[true, true, true, true, true, true, true, false, true, true, true, true, false, false, false, false] rfl rfl (by kernel_rfl) (fun _ _ _ h => h) (Or.inl ⟨by rfl, ?_⟩) hHeld ?_ ?_
      rotate_left
      · rintro w' ⟨s0, s1, s2⟩
        go_simp
        with_reducible rfl
      rotate_left
      · simp only [Act.put, List.setIfInBounds_toArray, List.set_cons_zero, List.set_cons_succ, i64_w, i32_w]
        rfl
      refine take_ (i := 7) (N := some 50) (v := ?_) (a' := ?_) #[true, true, true, true, true, true, true, true, true, true, true, true, false, false, false, false] rfl rfl (by kernel_rfl) (fun _ _ _ h => h) (Or.inl ⟨by rfl, ?_⟩) hHeld ?_ ?_
      rotate_left
      · rintro w' ⟨s0, s1, s2⟩
        go_simp
        with_reducible rfl
      rotate_left
      · simp only [Act.put, List.setIfInBounds_toArray, List.set_cons_zero, List.set_cons_succ, i64_w, i32_w]
        rfl
      refine take_ (i := 12) (N := some 55) (v := ?_) (a' := ?_) #[true, true, true, true, true, true, true, true, true, true, true, true, true, false, false, false] rfl rfl (by kernel_rfl) (fun _ _ _ h => h) (Or.inl ⟨by rfl, ?_⟩) hHeld ?_ ?_
      rotate_left
      · rintro w' ⟨s0, s1, s2⟩
        go_simp
        with_reducible rfl
      rotate_left
      · simp only [Act.put, List.setIfInBounds_toArray, List.set_cons_zero, List.set_cons_succ, i64_w, i32_w]
        rfl
      refine one_ (i := 13) (N := some 56) #[true, true, true, true, true, true, true, true, true, true, true, true, true, true, false, false] rfl rfl (by kernel_rfl) (by decide) (fun K hK => ?_)
      refine value_ (w1 := ?_) (v := ?_) (by rfl) rfl ?_ ?_
      rotate_left 2
      · go_simp
        constructor
        · rfl
        · rfl
      refine hK.out _ _ ⟨pw_cell_below (below_drew (below_alloc (Below.refl _ _) _)) Y3.out, pw_cell_below (below_drew (below_alloc (Below.refl _ _) _)) X2.out, pw_cell_below (below_drew (below_alloc (Below.refl _ _) _)) X1.out⟩ (fun hHeld => ?_)
      clear hK K
      refine norm_ (a' := ?_) ?_ ?_
      rotate_left
      · show Act.put _ (some 56) _ = _
        simp only [Act.put, List.setIfInBounds_toArray, List.set_cons_zero, List.set_cons_succ, i64_w, i32_w]
        rfl
      refine one_ (i := 14) (N := some 57) #[true, true, true, true, true, true, true, true, true, true, true, true, true, true, true, false] rfl rfl (by kernel_rfl) (by decide) (fun K hK => ?_)
      refine goes_ Tryd.func87 (by kernel_rfl) rfl #[.string t3, .slice (some ⟨w1.heap.size, 0, none⟩) 2 2] (by rfl) rfl rfl (by simp only [List.map_toArray, List.map_cons, List.map_nil]; rfl) ?_
      with_reducible refine (fill2_any t3 y2 y1 w1 w1.heap.size rfl ST.out SZ.out _ FR.out).mono ?_
      rintro e w33 ⟨rfl, hb33⟩
      refine ⟨_, rfl, ?_⟩
      have HQ3 := Aside0.mk hb33
      clear hb33
      refine hK.out _ _ ⟨pw_cell_below HQ3.out Y3.out, pw_cell_below HQ3.out X2.out, pw_cell_below HQ3.out X1.out⟩ (fun hHeld => ?_)
      clear hK K
      refine norm_ (a' := ?_) ?_ ?_
      rotate_left
      · show Act.put _ (some 57) _ = _
        simp only [Act.put, List.setIfInBounds_toArray, List.set_cons_zero, List.set_cons_succ, i64_w, i32_w]
        rfl
      refine pure_ (i := 15) (N := some 13) (v := ?_) (a' := ?_) #[true, true, true, true, true, true, true, true, true, true, true, true, true, true, true, true] rfl rfl (by kernel_rfl) (fun _ _ _ h => h) (Or.inl ⟨by rfl, ?_⟩) ?_ ?_
      rotate_left
      · intro w'
        go_simp
        with_reducible rfl
      rotate_left
      · simp only [Act.put, List.setIfInBounds_toArray, List.set_cons_zero, List.set_cons_succ, i64_w, i32_w]
        rfl
      refine done_ (by kernel_rfl) ?_
      clear SZ e1 e2 l1 l2
      have W0 : Aside0 (s0.size ≤ weigh 1) := ⟨by rw [← FR.out]; exact SZ1.out⟩
      have HB3 := Aside0.mk (below_step HB1.out HQ3.out)
      clear SZ1 ST FR hHeld
      go_wp2_with fail
      go_loopw [13, 14] (fun v i wr => ∃ (j : Nat) (s : ByteArray), j ≤ nl - 3 ∧ v = .string s ∧ i = .int .i64 j ∧ Aside0 (midJ l t2 j s = midJ l t2 (nl - 3) s0) ∧ Aside0 (s.size ≤ weigh (nl - 2 - j)) ∧ Aside0 (Below w1.heap.size w1 wr)) (fun _ i _ => (intOf i).toNat)
      case atStart => exact ⟨nl - 3, s0, Nat.le_refl _, rfl, by first | go_num | (congr 1; omega), ⟨rfl⟩, ⟨by rw [show nl - 2 - (nl - 3) = 1 by omega]; exact W0.out⟩, HQ3⟩
      case round =>
        obtain ⟨i, s, hi, rfl, rfl, HM, HSz, HBr⟩ := hrel
        rename_i wr
        by_cases hp : 0 < i
        · have hpi : (0 : Int) < (i : Int) := by omega
          obtain ⟨q, rfl⟩ : ∃ q, i = q + 1 := ⟨i - 1, by omega⟩
          have hM := HM.out
          rw [midJ] at hM
          obtain ⟨i, hiq⟩ : ∃ i, i = q + 1 := ⟨_, rfl⟩
          rw [← hiq] at hM hi hp hpi HSz ⊢
          obtain ⟨yi, hyi⟩ : ∃ x, x = l.getD i eB := ⟨_, rfl⟩
          rw [← hyi] at hM
          have Xi : Aside0 (wr.cell? ⟨bk, o + i, none⟩ = some (.string yi)) := ⟨by rw [hyi]; exact pw_cell_below HBr.out (HCs.out i (by omega))⟩
          have Z2 := Aside0.mk (pw_cell_below HBr.out Y2.out)
          have Qi : Aside0 (yi.size ≤ 30) := ⟨by rw [hyi]; exact H30'.out _ (by omega)⟩
          have ST := S2
          obtain ⟨s2, hs2⟩ : ∃ x, fillX [yi, s] t2 = x := ⟨_, rfl⟩
          rw [hs2] at hM
          have FR := Aside0.mk hs2
          have SZ1 : Aside0 ((fillX [yi, s] t2).size ≤ weigh (nl - 2 - i + 1)) := ⟨fillX_le S2.out (by intro x hx; rcases List.mem_cons.1 hx with rfl | hx; exact Nat.le_trans Qi.out (weigh_low _); rcases List.mem_cons.1 hx with rfl | hx; exact HSz.out; cases hx)⟩
          have SZ : Aside0 ((fillX [yi, s] t2).size ≤ 140737488355328) := ⟨Nat.le_trans SZ1.out (weigh_most (by omega))⟩
          have HM2 := Aside0.mk hM
          have Hiq := Aside0.mk hiq
          have hil : (i : Int) < (nl : Int) := by omega
          have hi0 : (0 : Int) ≤ (i : Int) := by omega
          clear hM hyi hs2 hiq
          go_wp2_with fail
          refine start_ (n := 11) (S := fun w' => w'.cell? ⟨bk5, o5 + 2, none⟩ = some (.string t2) ∧ w'.cell? ⟨bk, o + i, none⟩ = some (.string yi)) (ds := []) #[false, false, false, false, false, false, false, false, false, false, false] (by kernel_rfl) rfl rfl ⟨pw_cell_below (below_drew (Below.refl _ _)) Z2.out, pw_cell_below (below_drew (Below.refl _ _)) Xi.out⟩ (fun hHeld => ?_)
          refine pure_ (i := 0) (N := some 64) (v := ?_) (a' := ?_) #[true, false, false, false, false, false, false, false, false, false, false] rfl rfl (by kernel_rfl) (fun _ _ _ h => h) (Or.inl ⟨by rfl, ?_⟩) ?_ ?_
          rotate_left
          · intro w'
            go_simp
            with_reducible rfl
          rotate_left
          · simp only [Act.put, List.setIfInBounds_toArray, List.set_cons_zero, List.set_cons_succ, i64_w, i32_w]
            rfl
          refine pure_ (i := 1) (N := some 65) (v := ?_) (a' := ?_) #[true, true, false, false, false, false, false, false, false, false, false] rfl rfl (by kernel_rfl) (fun _ _ _ h => h) (Or.inl ⟨by rfl, ?_⟩) ?_ ?_
          rotate_left
          · intro w'
            go_simp
            with_reducible rfl
          rotate_left
          · simp only [Act.put, List.setIfInBounds_toArray, List.set_cons_zero, List.set_cons_succ, i64_w, i32_w]
            rfl
          refine pure_ (i := 3) (N := some 67) (v := ?_) (a' := ?_) #[true, true, false, true, false, false, false, false, false, false, false] rfl rfl (by kernel_rfl) (fun _ _ _ h => h) (Or.inl ⟨by rfl, ?_⟩) ?_ ?_
          rotate_left
          · intro w'
            go_simp
            with_reducible rfl
          rotate_left
          · simp only [Act.put, List.setIfInBounds_toArray, List.set_cons_zero, List.set_cons_succ, i64_w, i32_w]
            rfl
          refine pure_ (i := 4) (N := some 68) (v := ?_) (a' := ?_) #[true, true, false, true, true, false, false, false, false, false, false] rfl rfl (by kernel_rfl) (fun _ _ _ h => h) (Or.inl ⟨by rfl, ?_⟩) ?_ ?_
          rotate_left
          · intro w'
            go_simp
            with_reducible rfl
          rotate_left
          · simp only [Act.put, List.setIfInBounds_toArray, List.set_cons_zero, List.set_cons_succ, i64_w, i32_w]
            rfl
          refine pure_ (i := 5) (N := some 69) (v := ?_) (a' := ?_) #[true, true, false, true, true, true, false, false, false, false, false] rfl rfl (by kernel_rfl) (fun _ _ _ h => h) (Or.inl ⟨by rfl, ?_⟩) ?_ ?_
          rotate_left
          · intro w'
            go_simp
            with_reducible rfl
          rotate_left
          · simp only [Act.put, List.setIfInBounds_toArray, List.set_cons_zero, List.set_cons_succ, i64_w, i32_w]
            rfl
          refine pure_ (i := 7) (N := some 71) (v := ?_) (a' := ?_) #[true, true, false, true, true, true, false, true, false, false, false] rfl rfl (by kernel_rfl) (fun _ _ _ h => h) (Or.inl ⟨by rfl, ?_⟩) ?_ ?_
          rotate_left
          · intro w'
            go_simp
            with_reducible rfl
          rotate_left
          · simp only [Act.put, List.setIfInBounds_toArray, List.set_cons_zero, List.set_cons_succ, i64_w, i32_w]
            rfl
          refine take_ (i := 2) (N := some 66) (v := ?_) (a' := ?_) #[true, true, true, true, true, true, false, true, false, false, false] rfl rfl (by kernel_rfl) (fun _ _ _ h => h) (Or.inl ⟨by rfl, ?_⟩) hHeld ?_ ?_
          rotate_left
          · rintro w' ⟨s0, s1⟩
            go_simp
            with_reducible rfl
          rotate_left
          · simp only [Act.put, List.setIfInBounds_toArray, List.set_cons_zero, List.set_cons_succ, i64_w, i32_w]
            rfl
          refine take_ (i := 6) (N := some 70) (v := ?_) (a' := ?_) #[true, true, true, true, true, true, true, true, false, false, false] rfl rfl (by kernel_rfl) (fun _ _ _ h => h) (Or.inl ⟨by rfl, ?_⟩) hHeld ?_ ?_
          rotate_left
          · rintro w' ⟨s0, s1⟩
            go_simp
            with_reducible rfl
          rotate_left
          · simp only [Act.put, List.setIfInBounds_toArray, List.set_cons_zero, List.set_cons_succ, i64_w, i32_w]
            rfl
          refine one_ (i := 8) (N := some 72) #[true, true, true, true, true, true, true, true, true, false, false] rfl rfl (by kernel_rfl) (by decide) (fun K hK => ?_)
          refine value_ (w1 := ?_) (v := ?_) (by rfl) rfl ?_ ?_
          rotate_left 2
          · go_simp
            constructor
            · rfl
            · rfl
          refine hK.out _ _ ⟨pw_cell_below (below_drew (below_alloc (Below.refl _ _) _)) Z2.out, pw_cell_below (below_drew (below_alloc (Below.refl _ _) _)) Xi.out⟩ (fun hHeld => ?_)
          clear hK K
          refine norm_ (a' := ?_) ?_ ?_
          rotate_left
          · show Act.put _ (some 72) _ = _
            simp only [Act.put, List.setIfInBounds_toArray, List.set_cons_zero, List.set_cons_succ, i64_w, i32_w]
            rfl
          refine one_ (i := 9) (N := some 73) #[true, true, true, true, true, true, true, true, true, true, false] rfl rfl (by kernel_rfl) (by decide) (fun K hK => ?_)
          refine goes_ Tryd.func87 (by kernel_rfl) rfl #[.string t2, .slice (some ⟨wr.heap.size, 0, none⟩) 2 2] (by rfl) rfl rfl (by simp only [List.map_toArray, List.map_cons, List.map_nil]; rfl) ?_
          with_reducible refine (fill2_any t2 yi s wr wr.heap.size rfl ST.out SZ.out _ FR.out).mono ?_
          rintro e w33 ⟨rfl, hb33⟩
          refine ⟨_, rfl, ?_⟩
          have HQ3 := Aside0.mk hb33
          clear hb33
          refine hK.out _ _ ⟨pw_cell_below HQ3.out Z2.out, pw_cell_below HQ3.out Xi.out⟩ (fun hHeld => ?_)
          clear hK K
          refine norm_ (a' := ?_) ?_ ?_
          rotate_left
          · show Act.put _ (some 73) _ = _
            simp only [Act.put, List.setIfInBounds_toArray, List.set_cons_zero, List.set_cons_succ, i64_w, i32_w]
            rfl
          refine pure_ (i := 10) (N := some 13) (v := ?_) (a' := ?_) #[true, true, true, true, true, true, true, true, true, true, true] rfl rfl (by kernel_rfl) (fun _ _ _ h => h) (Or.inl ⟨by rfl, ?_⟩) ?_ ?_
          rotate_left
          · intro w'
            go_simp
            with_reducible rfl
          rotate_left
          · simp only [Act.put, List.setIfInBounds_toArray, List.set_cons_zero, List.set_cons_succ, i64_w, i32_w]
            rfl
          refine done_ (by kernel_rfl) ?_
          have HBq := Aside0.mk (below_step HBr.out HQ3.out)
          have W2 : Aside0 (s2.size ≤ weigh (nl - 2 - q)) := ⟨by rw [← FR.out, show nl - 2 - q = nl - 2 - i + 1 by have := Hiq.out; omega]; exact SZ1.out⟩
          have hiq := Hiq.out
          clear SZ SZ1 FR hHeld HQ3
          go_wp2_with fail
          exact ⟨⟨q, s2, by omega, rfl, rfl, HM2, W2, HBq⟩, by simp [intOf]; omega⟩
        · obtain rfl : i = 0 := by omega
          have hM := HM.out
          rw [midJ] at hM
          have hR := HR3.out
          rw [← hM] at hR
          clear hM
          have X0 := Aside0.mk (pw_cell_below HBr.out X00.out)
          have Z1 := Aside0.mk (pw_cell_below HBr.out Y1.out)
          have ST := S1
          obtain ⟨s2, hs2⟩ : ∃ x, fillX [y0, s] t1 = x := ⟨_, rfl⟩
          have FR := Aside0.mk hs2
          rw [hs2] at hR
          have HR4 := Aside0.mk hR
          have SZ : Aside0 ((fillX [y0, s] t1).size ≤ 140737488355328) := ⟨Nat.le_trans (fillX_le S1.out (j := nl - 2) (by intro x hx; rcases List.mem_cons.1 hx with rfl | hx; exact Nat.le_trans Q0.out (weigh_low _); rcases List.mem_cons.1 hx with rfl | hx; exact HSz.out; cases hx)) (weigh_most (by omega))⟩
          clear hs2 hR
          have hn0 : 0 < nl := by omega
          go_wp2_with fail
          refine start_ (n := 11) (S := fun w' => w'.cell? ⟨bk5, o5 + 1, none⟩ = some (.string t1) ∧ w'.cell? ⟨bk, o, none⟩ = some (.string y0)) (ds := []) #[false, false, false, false, false, false, false, false, false, false, false] (by kernel_rfl) rfl rfl ⟨pw_cell_below (below_drew (Below.refl _ _)) Z1.out, pw_cell_below (below_drew (Below.refl _ _)) X0.out⟩ (fun hHeld => ?_)
          refine pure_ (i := 0) (N := some 74) (v := ?_) (a' := ?_) #[true, false, false, false, false, false, false, false, false, false, false] rfl rfl (by kernel_rfl) (fun _ _ _ h => h) (Or.inl ⟨by rfl, ?_⟩) ?_ ?_
          rotate_left
          · intro w'
            go_simp
            with_reducible rfl
          rotate_left
          · simp only [Act.put, List.setIfInBounds_toArray, List.set_cons_zero, List.set_cons_succ, i64_w, i32_w]
            rfl
          refine pure_ (i := 1) (N := some 75) (v := ?_) (a' := ?_) #[true, true, false, false, false, false, false, false, false, false, false] rfl rfl (by kernel_rfl) (fun _ _ _ h => h) (Or.inl ⟨by rfl, ?_⟩) ?_ ?_
          rotate_left
          · intro w'
            go_simp
            with_reducible rfl
          rotate_left
          · simp only [Act.put, List.setIfInBounds_toArray, List.set_cons_zero, List.set_cons_succ, i64_w, i32_w]
            rfl
          refine pure_ (i := 3) (N := some 77) (v := ?_) (a' := ?_) #[true, true, false, true, false, false, false, false, false, false, false] rfl rfl (by kernel_rfl) (fun _ _ _ h => h) (Or.inl ⟨by rfl, ?_⟩) ?_ ?_
          rotate_left
          · intro w'
            go_simp
            with_reducible rfl
          rotate_left
          · simp only [Act.put, List.setIfInBounds_toArray, List.set_cons_zero, List.set_cons_succ, i64_w, i32_w]
            rfl
          refine pure_ (i := 4) (N := some 78) (v := ?_) (a' := ?_) #[true, true, false, true, true, false, false, false, false, false, false] rfl rfl (by kernel_rfl) (fun _ _ _ h => h) (Or.inl ⟨by rfl, ?_⟩) ?_ ?_
          rotate_left
          · intro w'
            go_simp
            with_reducible rfl
          rotate_left
          · simp only [Act.put, List.setIfInBounds_toArray, List.set_cons_zero, List.set_cons_succ, i64_w, i32_w]
            rfl
          refine pure_ (i := 6) (N := some 80) (v := ?_) (a' := ?_) #[true, true, false, true, true, false, true, false, false, false, false] rfl rfl (by kernel_rfl) (fun _ _ _ h => h) (Or.inl ⟨by rfl, ?_⟩) ?_ ?_
          rotate_left
          · intro w'
            go_simp
            with_reducible rfl
          rotate_left
          · simp only [Act.put, List.setIfInBounds_toArray, List.set_cons_zero, List.set_cons_succ, i64_w, i32_w]
            rfl
          refine take_ (i := 2) (N := some 76) (v := ?_) (a' := ?_) #[true, true, true, true, true, false, true, false, false, false, false] rfl rfl (by kernel_rfl) (fun _ _ _ h => h) (Or.inl ⟨by rfl, ?_⟩) hHeld ?_ ?_
          rotate_left
          · rintro w' ⟨s0, s1⟩
            go_simp
            with_reducible rfl
          rotate_left
          · simp only [Act.put, List.setIfInBounds_toArray, List.set_cons_zero, List.set_cons_succ, i64_w, i32_w]
            rfl
          refine take_ (i := 5) (N := some 79) (v := ?_) (a' := ?_) #[true, true, true, true, true, true, true, false, false, false, false] rfl rfl (by kernel_rfl) (fun _ _ _ h => h) (Or.inl ⟨by rfl, ?_⟩) hHeld ?_ ?_
          rotate_left
          · rintro w' ⟨s0, s1⟩
            go_simp
            with_reducible rfl
          rotate_left
          · simp only [Act.put, List.setIfInBounds_toArray, List.set_cons_zero, List.set_cons_succ, i64_w, i32_w]
            rfl
          refine one_ (i := 7) (N := some 81) #[true, true, true, true, true, true, true, true, false, false, false] rfl rfl (by kernel_rfl) (by decide) (fun K hK => ?_)
          refine value_ (w1 := ?_) (v := ?_) (by rfl) rfl ?_ ?_
          rotate_left 2
          · go_simp
            constructor
            · rfl
            · rfl
          refine hK.out _ _ ⟨pw_cell_below (below_drew (below_alloc (Below.refl _ _) _)) Z1.out, pw_cell_below (below_drew (below_alloc (Below.refl _ _) _)) X0.out⟩ (fun hHeld => ?_)
          clear hK K
          refine norm_ (a' := ?_) ?_ ?_
          rotate_left
          · show Act.put _ (some 81) _ = _
            simp only [Act.put, List.setIfInBounds_toArray, List.set_cons_zero, List.set_cons_succ, i64_w, i32_w]
            rfl
          refine one_ (i := 8) (N := some 82) #[true, true, true, true, true, true, true, true, true, false, false] rfl rfl (by kernel_rfl) (by decide) (fun K hK => ?_)
          refine goes_ Tryd.func87 (by kernel_rfl) rfl #[.string t1, .slice (some ⟨wr.heap.size, 0, none⟩) 2 2] (by rfl) rfl rfl (by simp only [List.map_toArray, List.map_cons, List.map_nil]; rfl) ?_
          with_reducible refine (fill2_any t1 y0 s wr wr.heap.size rfl ST.out SZ.out _ FR.out).mono ?_
          rintro e w33 ⟨rfl, hb33⟩
          refine ⟨_, rfl, ?_⟩
          have HQ3 := Aside0.mk hb33
          clear hb33
          refine hK.out _ _ ⟨pw_cell_below HQ3.out Z1.out, pw_cell_below HQ3.out X0.out⟩ (fun hHeld => ?_)
          clear hK K
          refine norm_ (a' := ?_) ?_ ?_
          rotate_left
          · show Act.put _ (some 82) _ = _
            simp only [Act.put, List.setIfInBounds_toArray, List.set_cons_zero, List.set_cons_succ, i64_w, i32_w]
            rfl
          refine pure_ (i := 9) (N := some 8) (v := ?_) (a' := ?_) #[true, true, true, true, true, true, true, true, true, true, false] rfl rfl (by kernel_rfl) (fun _ _ _ h => h) (Or.inl ⟨by rfl, ?_⟩) ?_ ?_
          rotate_left
          · intro w'
            go_simp
            with_reducible rfl
          rotate_left
          · simp only [Act.put, List.setIfInBounds_toArray, List.set_cons_zero, List.set_cons_succ, i64_w, i32_w]
            rfl
          refine pure_ (i := 10) (N := some 9) (v := ?_) (a' := ?_) #[true, true, true, true, true, true, true, true, true, true, true] rfl rfl (by kernel_rfl) (fun _ _ _ h => h) (Or.inl ⟨by rfl, ?_⟩) ?_ ?_
          rotate_left
          · intro w'
            go_simp
            with_reducible rfl
          rotate_left
          · simp only [Act.put, List.setIfInBounds_toArray, List.set_cons_zero, List.set_cons_succ, i64_w, i32_w]
            rfl
          refine done_ (by kernel_rfl) ?_
          have HBq := Aside0.mk (below_step HBr.out HQ3.out)
          clear SZ FR hHeld HQ3
          go_wp2_with fail
          go_ret2
          obtain ⟨rfl, rfl⟩ := Prod.mk.inj HR4.out
          exact ⟨rfl, below_step HB1.out HBq.out⟩
end Go.Proofs.YthefdpioaapomaaDoor.Ext
