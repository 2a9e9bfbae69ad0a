/- Plain laws of words: rows that are cut and put together, names that are told and read again. No memory in sight. -/
import Derived.Test.YthefdpioaapomaaDoorPu6
namespace Go.Proofs.YthefdpioaapomaaDoor.Pu6
set_option linter.unusedVariables false
set_option linter.unusedSimpArgs false
open Go.RowKit Go.Proofs.YthefdpioaapomaaDoorW.PrintWords Go.Proofs.YthefdpioaapomaaDoorW.PrintLast Go.Proofs.YthefdpioaapomaaDoor.Ext Go.Proofs.YthefdpioaapomaaDoorW.PrintMore Go.Proofs.YthefdpioaapomaaDoor.PA Go.Proofs.YthefdpioaapomaaDoor.Pl

def cnt (at_ : Bs) (ws : List Bs) : Nat := (ws.filter (fun w => decide (w = at_))).length
theorem cutGo_spec (at_ : Bs) : ∀ (ws : List Bs) (pre : List (List Bs)) (cur : List Bs), ∃ (h : List Bs) (t : List (List Bs)), cutGo at_ ws pre cur = pre ++ (cur ++ h) :: t ∧ ws = h ++ t.flatMap (fun r => at_ :: r) ∧ (∀ w ∈ h, w ≠ at_) ∧ ∀ r ∈ t, ∀ w ∈ r, w ≠ at_
  | [], pre, cur => ⟨[], [], by simp [cutGo], rfl, by simp, by simp⟩
  | w :: ws, pre, cur => by
    rw [cutGo]
    by_cases hw : w = at_
    · rw [if_pos hw]
      obtain ⟨h, t, e1, e2, e3, e4⟩ := cutGo_spec at_ ws (pre ++ [cur]) []
      refine ⟨[], h :: t, ?_, ?_, by simp, ?_⟩
      · rw [e1]; simp
      · rw [e2, hw]; simp
      · intro r hr
        rcases List.mem_cons.1 hr with rfl | hr
        · exact e3
        · exact e4 r hr
    · rw [if_neg hw]
      obtain ⟨h, t, e1, e2, e3, e4⟩ := cutGo_spec at_ ws pre (cur ++ [w])
      refine ⟨w :: h, t, ?_, ?_, ?_, e4⟩
      · rw [e1]; simp
      · rw [e2]; simp
      · intro x hx
        rcases List.mem_cons.1 hx with rfl | hx
        · exact hw
        · exact e3 x hx
theorem cut_spec (at_ : Bs) (ws : List Bs) : ∃ (h : List Bs) (t : List (List Bs)), cutW at_ ws = h :: t ∧ ws = h ++ t.flatMap (fun r => at_ :: r) ∧ (∀ w ∈ h, w ≠ at_) ∧ ∀ r ∈ t, ∀ w ∈ r, w ≠ at_ := by
  obtain ⟨h, t, e1, e2⟩ := cutGo_spec at_ ws [] []
  exact ⟨h, t, by rw [cutW, e1]; simp, e2⟩
theorem cnt_none {at_ : Bs} {h : List Bs} (hh : ∀ w ∈ h, w ≠ at_) : cnt at_ h = 0 := by
  unfold cnt
  rw [List.filter_eq_nil_iff.2 (fun w hw => by simpa using hh w hw)]
  rfl
theorem cnt_app (at_ : Bs) (a b : List Bs) : cnt at_ (a ++ b) = cnt at_ a + cnt at_ b := by simp [cnt]
theorem cnt_cons_hit (at_ : Bs) (ws : List Bs) : cnt at_ (at_ :: ws) = 1 + cnt at_ ws := by simp [cnt]; omega
theorem cnt_flat {at_ : Bs} : ∀ (t : List (List Bs)), (∀ r ∈ t, ∀ w ∈ r, w ≠ at_) → cnt at_ (t.flatMap (fun r => at_ :: r)) = t.length
  | [], _ => rfl
  | r :: t, h => by
    rw [List.flatMap_cons, List.cons_append, cnt_cons_hit, cnt_app, cnt_none (h r List.mem_cons_self), cnt_flat t (fun x hx => h x (List.mem_cons_of_mem _ hx))]
    simp; omega
def total (c : List (List Bs)) : Nat := (c.map List.length).sum
theorem total_flat (at_ : Bs) : ∀ (t : List (List Bs)), (t.flatMap (fun r => at_ :: r)).length = total t + t.length
  | [] => rfl
  | r :: t => by
    rw [List.flatMap_cons, List.length_append, total_flat at_ t]
    simp [total]; omega
/-- How many rows, how many words. -/
theorem cut_counts (at_ : Bs) (ws : List Bs) : (cutW at_ ws).length = cnt at_ ws + 1 ∧ total (cutW at_ ws) + cnt at_ ws = ws.length := by
  obtain ⟨h, t, e1, e2, e3, e4⟩ := cut_spec at_ ws
  have c : cnt at_ ws = t.length := by rw [e2, cnt_app, cnt_none e3, cnt_flat t e4]; omega
  have l : ws.length = h.length + (total t + t.length) := by
    have := congrArg List.length e2
    rw [List.length_append, total_flat] at this
    exact this
  rw [e1, c]
  refine ⟨rfl, ?_⟩
  simp [total] at l ⊢
  omega

/-! Names that are told -/
theorem isLet_dash {b : UInt8} (h : isLet b = true) : b ≠ 45 := fun e => by subst e; cases h
theorem good_spec {w : Bs} (h : goodW w = true) : w ≠ [] ∧ w.length ≤ 20 ∧ ∀ b ∈ w, b ≠ (45 : UInt8) := by
  unfold goodW at h
  simp only [Bool.and_eq_true, decide_eq_true_eq, List.all_eq_true] at h
  refine ⟨fun e => by rw [e] at h; exact absurd h.1.1 (by decide), h.1.2, fun b hb => isLet_dash (h.2 b hb)⟩
theorem split_joinD : ∀ ws : List Bs, ws ≠ [] → (∀ w ∈ ws, goodW w = true) → splitC 45 (joinD ws) = ws
  | [], h, _ => absurd rfl h
  | [w], _, hg => by rw [joinD_one, splitC_none 45 w (good_spec (hg w List.mem_cons_self)).2.2]
  | w :: v :: ws, _, hg => by
    rw [joinD_cons, splitC_word 45 w _ (good_spec (hg w List.mem_cons_self)).2.2, split_joinD (v :: ws) (by simp) (fun x hx => hg x (List.mem_cons_of_mem _ hx))]
theorem joinD_len : ∀ ws : List Bs, (∀ w ∈ ws, w.length ≤ 20) → (joinD ws).length ≤ ws.length * 21
  | [], _ => Nat.le_refl _
  | [w], hg => by
    rw [joinD_one]
    have := hg w List.mem_cons_self
    simp; omega
  | w :: v :: ws, hg => by
    have ih := joinD_len (v :: ws) (fun x hx => hg x (List.mem_cons_of_mem _ hx))
    have := hg w List.mem_cons_self
    rw [joinD_cons, List.length_append, List.length_cons]
    rw [List.length_cons, Nat.succ_mul]
    omega
theorem split_told (ws : List Bs) (h0 : ws ≠ []) (h1 : ws.length ≤ 12) (hg : ∀ w ∈ ws, goodW w = true) : splitW (joinD ws) = (ws, 0) ∧ (joinD ws).length ≤ 252 := by
  have hl := joinD_len ws (fun w hw => (good_spec (hg w hw)).2.1)
  unfold splitW
  rw [if_neg (by omega), split_joinD ws h0 hg, if_pos (List.all_eq_true.2 hg)]
  exact ⟨rfl, by omega⟩
theorem rd_rL (c : List (List Bs)) {i : Nat} (h : i < c.length) : rd_L2 (rL c) (i : Int) = c[i].map ofL := by simp [rd_L2, rL, h]
theorem rL_length (c : List (List Bs)) : (rL c).length = c.length := by simp [rL]
end Go.Proofs.YthefdpioaapomaaDoor.Pu6
