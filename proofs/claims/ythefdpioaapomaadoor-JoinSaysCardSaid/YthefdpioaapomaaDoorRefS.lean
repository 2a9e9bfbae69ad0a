/- cubitref18.Lists: a pointer to three rows of its own: languages, widths, texts. What appends and stores leave of them. -/
import Derived.Test.YthefdpioaapomaaDoorRj
import Derived.Test.YthefdpioaapomaaDoorWNEv
namespace Go.Proofs.YthefdpioaapomaaDoor.Pj
set_option linter.unusedVariables false
set_option linter.unusedSimpArgs false
open Go.RowKit Go.Proofs.YthefdpioaapomaaDoorW.PrintWords Go.Proofs.YthefdpioaapomaaDoorW.PrintLast Go.Proofs.YthefdpioaapomaaDoor.Ext Go.Proofs.YthefdpioaapomaaDoorW.PrintMore Go.Proofs.YthefdpioaapomaaDoor.PA Go.Proofs.YthefdpioaapomaaDoor.PJ Go.Proofs.YthefdpioaapomaaDoor.Pl Go.Proofs.YthefdpioaapomaaDoor.Pu7

abbrev kStrs : Kd (List ByteArray) := Kd.slice 9 Kd.string
/-- Blocks that are none of the three rows', nor the struct's. -/
def apart (vL vW vT : Value) (B : Nat) (k : Nat) : Prop := some k ≠ vL.ownBlock ∧ some k ≠ vW.ownBlock ∧ some k ≠ vT.ownBlock ∧ k ≠ B
structure RefAt (w : World) (base B : Nat) (vL vW vT : Value) (ls ws : List ByteArray) (ts : List (List ByteArray)) : Prop where
  L : Kd.R Kd.string 9 w base (fun _ => True) vL ls
  W : Kd.R Kd.string 9 w base (fun _ => True) vW ws
  T : Kd.N kStrs 29 w base (fun k => some k ≠ vL.ownBlock ∧ some k ≠ vW.ownBlock ∧ k ≠ B) vT ts
  LW : ∀ k, vL.ownBlock = some k → some k ≠ vW.ownBlock
  box : ∃ cs, w.heap[B]? = some (.cells cs 120 (0, 0))
section
variable {w w1 : World} {base B : Nat} {vL vW vT v1 : Value} {ls ws ls' ws' : List ByteArray} {ts ts' : List (List ByteArray)}
theorem fresh_ne {u v1 : Value} {k n : Nat} (h1 : some k ≠ u.ownBlock) (h2 : k < n) (hat : v1.ownBlock = u.ownBlock ∨ ∃ b, v1.ownBlock = some b ∧ n ≤ b) : some k ≠ v1.ownBlock := by
  rcases hat with h | ⟨b, h, hb⟩
  · rw [h]; exact h1
  · rw [h]
    intro e
    injection e with e
    omega
theorem RefAt.B_L (h : RefAt w base B vL vW vT ls ws ts) : some B ≠ vL.ownBlock := by
  obtain ⟨cs, hb⟩ := h.box
  exact Kd.R_ne h.L hb (by decide)
theorem RefAt.B_W (h : RefAt w base B vL vW vT ls ws ts) : some B ≠ vW.ownBlock := by
  obtain ⟨cs, hb⟩ := h.box
  exact Kd.R_ne h.W hb (by decide)
theorem RefAt.B_T (h : RefAt w base B vL vW vT ls ws ts) : some B ≠ vT.ownBlock := by
  obtain ⟨cs, hb⟩ := h.box
  exact Kd.N_ne h.T hb (by decide)
theorem RefAt.B_lt (h : RefAt w base B vL vW vT ls ws ts) : B < w.heap.size := by
  obtain ⟨cs, hb⟩ := h.box
  exact blk_lt hb
theorem RefAt.T_L (h : RefAt w base B vL vW vT ls ws ts) : ∀ k, vT.ownBlock = some k → some k ≠ vL.ownBlock := fun k hk => by
  obtain ⟨cs, hb⟩ := Kd.N_typed h.T k hk
  exact Kd.R_ne h.L hb (by decide)
theorem RefAt.T_W (h : RefAt w base B vL vW vT ls ws ts) : ∀ k, vT.ownBlock = some k → some k ≠ vW.ownBlock := fun k hk => by
  obtain ⟨cs, hb⟩ := Kd.N_typed h.T k hk
  exact Kd.R_ne h.W hb (by decide)
/-- What is new is apart. -/
theorem RefAt.fresh (h : RefAt w base B vL vW vT ls ws ts) {k : Nat} (hk : w.heap.size ≤ k) : apart vL vW vT B k :=
  ⟨fun e => by have := Kd.R_lt h.L k e.symm; omega, fun e => by have := Kd.R_lt h.W k e.symm; omega, fun e => by have := Kd.N_lt h.T k e.symm; omega, fun e => by have := h.B_lt; omega⟩
theorem RefAt.below (h : RefAt w base B vL vW vT ls ws ts) (hb : Below w.heap.size w w1) : RefAt w1 base B vL vW vT ls ws ts := by
  obtain ⟨cs, hx⟩ := h.box
  exact ⟨Kd.R_below h.L hb, Kd.R_below h.W hb, Kd.N_below h.T hb, h.LW, cs, blk_below hx hb⟩
theorem RefAt.appL (h : RefAt w base B vL vW vT ls ws ts) (hr : Kd.R Kd.string 9 w1 base (fun _ => True) v1 ls') (hg : w.grownBy w1 vL.ownBlock) (hat : v1.ownBlock = vL.ownBlock ∨ ∃ b, v1.ownBlock = some b ∧ w.heap.size ≤ b) : RefAt w1 base B v1 vW vT ls' ws ts := by
  obtain ⟨cs, hx⟩ := h.box
  refine ⟨hr, Kd.R_grown2 h.W rfl hg (fun k hk => h.LW k hk), Kd.N_mono (Kd.N_step (Kd.N_bound h.T) (fun k hk hlt => hg.block k hlt hk.1.1)) (fun k hk => ⟨fresh_ne hk.1.1 hk.2 hat, hk.1.2⟩), fun k hk he => ?_, cs, blk_grown hx hg h.B_L⟩
  rcases hat with e | ⟨b, e, hb⟩
  · exact h.LW k (e.symm.trans hk) he
  · rw [e] at hk
    injection hk with hk
    have := Kd.R_lt h.W k he.symm
    omega
theorem RefAt.appW (h : RefAt w base B vL vW vT ls ws ts) (hr : Kd.R Kd.string 9 w1 base (fun _ => True) v1 ws') (hg : w.grownBy w1 vW.ownBlock) (hat : v1.ownBlock = vW.ownBlock ∨ ∃ b, v1.ownBlock = some b ∧ w.heap.size ≤ b) : RefAt w1 base B vL v1 vT ls ws' ts := by
  obtain ⟨cs, hx⟩ := h.box
  refine ⟨Kd.R_grown2 h.L rfl hg (fun k hk he => h.LW k he.symm hk.symm), hr, Kd.N_mono (Kd.N_step (Kd.N_bound h.T) (fun k hk hlt => hg.block k hlt hk.1.2.1)) (fun k hk => ⟨hk.1.1, fresh_ne hk.1.2.1 hk.2 hat, hk.1.2.2⟩), fun k hk he => ?_, cs, blk_grown hx hg h.B_W⟩
  rcases hat with e | ⟨b, e, hb⟩
  · exact h.LW k hk (he.trans e)
  · rw [e] at he
    injection he with he
    have := Kd.R_lt h.L k hk
    omega
theorem RefAt.appT (h : RefAt w base B vL vW vT ls ws ts) (hr : Kd.N kStrs 29 w1 base (fun k => some k ≠ vL.ownBlock ∧ some k ≠ vW.ownBlock ∧ k ≠ B) v1 ts') (hg : w.grownBy w1 vT.ownBlock) : RefAt w1 base B vL vW v1 ls ws ts' := by
  obtain ⟨cs, hx⟩ := h.box
  exact ⟨Kd.R_grown2 h.L rfl hg h.T_L, Kd.R_grown2 h.W rfl hg h.T_W, hr, h.LW, cs, blk_grown hx hg h.B_T⟩
theorem R_notB {v : Value} {xs : List ByteArray} (h : Kd.R Kd.string 9 w base (fun _ => True) v xs) (hne : some B ≠ v.ownBlock) (i : Nat) (u : Value) : Kd.R Kd.string 9 (w.setCell ⟨B, i, none⟩ u) base (fun _ => True) v xs :=
  Kd.R_mono (Kd.R_far (p := ⟨B, i, none⟩) (Kd.R_tight rfl h) (fun k hk e => hne (by rw [← hk, e])) u) (fun _ _ => trivial)
theorem RefAt.store (h : RefAt w base B vL vW vT ls ws ts) (i : Nat) (u : Value) : RefAt (w.setCell ⟨B, i, none⟩ u) base B vL vW vT ls ws ts := by
  obtain ⟨cs, hx⟩ := h.box
  exact ⟨R_notB h.L h.B_L i u, R_notB h.W h.B_W i u, Kd.N_far (p := ⟨B, i, none⟩) h.T (fun k hk => hk.2.2) u, h.LW, _, blk_set hx i u⟩
theorem foot_below {P : World → Prop} {ok : Nat → Prop} (h : Foot P w ok) (hb : Below w.heap.size w w1) : Foot P w1 ok := Foot.step h (fun k _ hlt => hb.block k hlt)
theorem foot_L {P : World → Prop} (h : Foot P w (apart vL vW vT B)) (hg : w.grownBy w1 vL.ownBlock) (hat : v1.ownBlock = vL.ownBlock ∨ ∃ b, v1.ownBlock = some b ∧ w.heap.size ≤ b) : Foot P w1 (apart v1 vW vT B) :=
  Foot.mono (Foot.step (Foot.bound h) (fun k hk hlt => hg.block k hlt hk.1.1)) (fun k hk => ⟨fresh_ne hk.1.1 hk.2 hat, hk.1.2⟩)
theorem foot_W {P : World → Prop} (h : Foot P w (apart vL vW vT B)) (hg : w.grownBy w1 vW.ownBlock) (hat : v1.ownBlock = vW.ownBlock ∨ ∃ b, v1.ownBlock = some b ∧ w.heap.size ≤ b) : Foot P w1 (apart vL v1 vT B) :=
  Foot.mono (Foot.step (Foot.bound h) (fun k hk hlt => hg.block k hlt hk.1.2.1)) (fun k hk => ⟨hk.1.1, fresh_ne hk.1.2.1 hk.2 hat, hk.1.2.2⟩)
/-- A row of texts that was made later than these. -/
theorem RefAt.later {W : World} {v : Value} {xs : List ByteArray} {base2 : Nat} (h : RefAt w base B vL vW vT ls ws ts) (hr : Kd.R Kd.string 9 W base2 (fun _ => True) v xs) (hb : w.heap.size ≤ base2) : ∃ A c, v = .slice A xs.length c ∧ xs.length ≤ c ∧ Kd.F Kd.string W (apart vL vW vT B) A xs.length xs := by
  obtain ⟨A, c, rfl, hc, _⟩ := Kd.R_reads hr
  refine ⟨A, c, rfl, hc, Kd.F_mono (Kd.R_F (Kd.R_tight rfl hr)) (fun k hk => h.fresh ?_)⟩
  have := Kd.R_base hr k hk.symm
  omega
end
/-! The document's lists, in the order in which they came -/
def lsOf (fs : PL) : List ByteArray := fs.reverse.map fun f => ofL f.1.1
def wsOf (fs : PL) : List ByteArray := fs.reverse.map fun f => ofL f.1.2
def tsOf (fs : PL) : List (List ByteArray) := fs.reverse.map fun f => f.2.map ofL
theorem lsOf_cons (f : PKey × List Bs) (fs : PL) : lsOf (f :: fs) = lsOf fs ++ [ofL f.1.1] := by unfold lsOf; rw [List.reverse_cons, List.map_append]; rfl
theorem wsOf_cons (f : PKey × List Bs) (fs : PL) : wsOf (f :: fs) = wsOf fs ++ [ofL f.1.2] := by unfold wsOf; rw [List.reverse_cons, List.map_append]; rfl
theorem tsOf_cons (f : PKey × List Bs) (fs : PL) : tsOf (f :: fs) = tsOf fs ++ [f.2.map ofL] := by unfold tsOf; rw [List.reverse_cons, List.map_append]; rfl
theorem lsOf_len (fs : PL) : (lsOf fs).length = fs.length := by unfold lsOf; rw [List.length_map, List.length_reverse]
theorem wsOf_len (fs : PL) : (wsOf fs).length = fs.length := by unfold wsOf; rw [List.length_map, List.length_reverse]
theorem tsOf_len (fs : PL) : (tsOf fs).length = fs.length := by unfold tsOf; rw [List.length_map, List.length_reverse]
theorem getP_none {k : PKey} : ∀ {fs : PL}, (∀ e ∈ fs, e.1 ≠ k) → getP fs k = none
  | [], _ => rfl
  | f :: fs, h => by rw [getP, if_neg (h f List.mem_cons_self), getP_none (fun e he => h e (List.mem_cons_of_mem _ he))]
theorem getP_some {k : PKey} : ∀ {fs : PL}, (∃ e ∈ fs, e.1 = k) → ∃ x, getP fs k = some x
  | [], ⟨_, h, _⟩ => by cases h
  | f :: fs, ⟨e, he, hk⟩ => by
    rw [getP]
    by_cases h : f.1 = k
    · rw [if_pos h]; exact ⟨_, rfl⟩
    · rw [if_neg h]
      rcases List.mem_cons.1 he with rfl | he
      · exact absurd hk h
      · exact getP_some ⟨e, he, hk⟩
/-- All rows, those that are no lists passed by. -/
def loadQ : List Row → PL → Int × Int × PL
  | [], fs => (0, 0, fs)
  | r :: rs, fs => if isKind wList r = true then (if (rowP fs (r.ws.drop 1)).1 = 0 then loadQ rs (rowP fs (r.ws.drop 1)).2 else (r.line, (rowP fs (r.ws.drop 1)).1, fs)) else loadQ rs fs
theorem loadQ_P : ∀ (rs : List Row) (fs : PL), loadQ rs fs = loadP (rs.filter (isKind wList)) fs
  | [], fs => rfl
  | r :: rs, fs => by
    rw [loadQ, List.filter_cons]
    by_cases h : isKind wList r = true
    · rw [if_pos h, if_pos h, loadP, loadQ_P rs]
    · rw [if_neg h, if_neg h, loadQ_P rs]
end Go.Proofs.YthefdpioaapomaaDoor.Pj
