/- The statement WordCuts holds, in plain words: its walked text comes to true at every input. No memory in sight. -/
import Derived.Test.YthefdpioaapomaaDoorLq6
import Derived.Test.YthefdpioaapomaaDoorPA15
namespace Go.Proofs.YthefdpioaapomaaDoor.Pu6
set_option linter.unusedVariables false
set_option linter.unusedSimpArgs false
open Go.RowKit Go.Proofs.YthefdpioaapomaaDoorW.PrintWords Go.Proofs.YthefdpioaapomaaDoorW.PrintLast Go.Proofs.YthefdpioaapomaaDoor.Ext Go.Proofs.YthefdpioaapomaaDoorW.PrintMore Go.Proofs.YthefdpioaapomaaDoor.PA Go.Proofs.YthefdpioaapomaaDoor.Pl

/-- What the rows from the i-th on still give. -/
def rest (at_ : Bs) (c : List (List Bs)) (i : Nat) : List Bs := if i = 0 then (match c with | [] => [] | h :: t => h ++ t.flatMap (fun r => at_ :: r)) else (c.drop i).flatMap (fun r => at_ :: r)
theorem rest_step (at_ : Bs) (c : List (List Bs)) {i : Nat} (hi : i < c.length) : rest at_ c i = (if i = 0 then [] else [at_]) ++ c[i] ++ rest at_ c (i + 1) := by
  unfold rest
  by_cases h : i = 0
  · subst h
    cases c with
    | nil => cases hi
    | cons x t => simp
  · rw [if_neg h, if_neg h, if_neg (by omega), List.drop_eq_getElem_cons hi, List.flatMap_cons]
    rfl
theorem cuts_l1 (ls : List Bs) (at_ : Bs) (c : List (List Bs)) (hne : ∀ r ∈ c, ∀ w ∈ r, w ≠ at_) (i : Nat) (hi : i < c.length) (r : List ByteArray) (hlen : r.length + c[i].length < 8796093022208) (hil : i < 1000000000)
    (next : Ev (fun k => cubitlaw6_WordCuts.l0 k (ls.map ofL) (ofL at_) (rL c) (r ++ c[i].map ofL) ((i + 1 : Nat) : Int)) true) : ∀ (d j : Nat), j + d = c[i].length → Ev (fun k => cubitlaw6_WordCuts.l1 k (ls.map ofL) (ofL at_) (rL c) r (i : Int) (j : Int)) true
  | 0, j, hd => by
    refine Ev.step (fun k => ?_) next
    simp only [cubitlaw6_WordCuts.l1]
    rw [if_pos (by omega), if_pos (by rw [rL_length]; omega), rd_rL c hi, if_neg (by rw [List.length_map]; omega), if_pos (by rw [List.length_map]; omega), wrap_nat (by omega)]
  | d + 1, j, hd => by
    have hj : j < c[i].length := by omega
    refine Ev.step (fun k => ?_) (cuts_l1 ls at_ c hne i hi r hlen hil next d (j + 1) (by omega))
    simp only [cubitlaw6_WordCuts.l1]
    rw [if_pos (by omega), if_pos (by rw [rL_length]; omega), rd_rL c hi, if_pos (by rw [List.length_map]; omega), if_pos (by omega), rd_map c[i] hj, if_neg (by rw [ofL_toList, ofL_toList]; exact hne c[i] (List.getElem_mem hi) _ (List.getElem_mem hj)), wrap_nat (by omega)]
theorem cuts_l0 (ls : List Bs) (at_ : Bs) (hl : ls.length ≤ 20) (c : List (List Bs)) (hc : c.length ≤ 1000) (hne : ∀ r ∈ c, ∀ w ∈ r, w ≠ at_) : ∀ (d i : Nat) (r : List Bs), i + d = c.length → r ++ rest at_ c i = ls →
    Ev (fun k => cubitlaw6_WordCuts.l0 k (ls.map ofL) (ofL at_) (rL c) (r.map ofL) (i : Int)) true
  | 0, i, r, hd, hr => by
    have hrest : rest at_ c i = [] := by
      unfold rest
      by_cases h : i = 0
      · rw [if_pos h]
        cases c with
        | nil => rfl
        | cons => simp at hd; omega
      · rw [if_neg h, List.drop_of_length_le (by omega)]; rfl
    rw [hrest, List.append_nil] at hr
    subst hr
    have tx := texts_ev (r.map ofL) (by rw [List.length_map]; omega)
    apply Ev.step (f := fun k => (cubitlaw6_texts.f k (r.map ofL) (r.map ofL)).bind fun t416 => (if t416 = true then (some true) else (some false)))
    · intro k
      simp only [cubitlaw6_WordCuts.l0]
      rw [if_neg (by rw [rL_length]; omega)]
    · exact Ev.bind tx (Ev.now true)
  | d + 1, i, r, hd, hr => by
    have hi : i < c.length := by omega
    rw [rest_step at_ c hi, ← List.append_assoc, ← List.append_assoc] at hr
    have hlen : (r ++ (if i = 0 then [] else [at_])).length + c[i].length ≤ 20 := by
      have := congrArg List.length hr
      simp only [List.length_append] at this ⊢
      omega
    have ih := cuts_l0 ls at_ hl c hc hne d (i + 1) (r ++ (if i = 0 then [] else [at_]) ++ c[i]) (by omega) hr
    rw [List.map_append] at ih
    have l1 := cuts_l1 ls at_ c hne i hi ((r ++ (if i = 0 then [] else [at_])).map ofL) (by rw [List.length_map]; omega) (by omega) ih c[i].length 0 (by omega)
    have j1 : Ev (fun k => cubitlaw6_WordCuts.j1 k (ls.map ofL) (ofL at_) (rL c) ((r ++ (if i = 0 then [] else [at_])).map ofL) (i : Int)) true := by
      refine Ev.step (fun k => ?_) l1
      simp only [cubitlaw6_WordCuts.j1]
      rfl
    refine Ev.step (fun k => ?_) j1
    simp only [cubitlaw6_WordCuts.l0]
    rw [if_pos (by rw [rL_length]; omega)]
    by_cases h : i = 0
    · subst h
      rw [if_neg (by decide), if_pos rfl, List.append_nil]
    · have hr20 : r.length ≤ 20 := by simp only [List.length_append] at hlen; omega
      rw [if_pos (by omega), if_pos (by rw [List.length_map]; omega), if_neg h, List.map_append]
      rfl
theorem WordCuts_ev (ls : List Bs) (at_ : Bs) : Ev (fun k => cubitlaw6_WordCuts.f k (ls.map ofL) (ofL at_)) true := by
  unfold cubitlaw6_WordCuts.f
  refine Ev.bind awake_ev ?_
  simp only [if_true]
  by_cases h : 20 < ls.length
  · refine Ev.congr (fun k => ?_) (Ev.now true)
    rw [if_pos (by rw [List.length_map]; omega)]
  · have ct := cut_ev at_ ls (by omega)
    obtain ⟨c1, c2⟩ := cut_counts at_ ls
    obtain ⟨hd, t, e1, e2, e3, e4⟩ := cut_spec at_ ls
    have hne : ∀ r ∈ cutW at_ ls, ∀ w ∈ r, w ≠ at_ := by
      rw [e1]
      intro r hr
      rcases List.mem_cons.1 hr with rfl | hr
      · exact e3
      · exact e4 r hr
    have hrest : ([] : List Bs) ++ rest at_ (cutW at_ ls) 0 = ls := by
      unfold rest
      rw [e1, if_pos rfl, List.nil_append]
      exact e2.symm
    have main : Ev (fun k => (word_Cut.f k (ls.map ofL) (ofL at_)).bind fun t403 => (cubitlaw6_WordCuts.l0 k (ls.map ofL) (ofL at_) t403 ([] : List ByteArray) 0)) true := by
      refine Ev.bind ct ?_
      exact cuts_l0 ls at_ (by omega) (cutW at_ ls) (by omega) hne (cutW at_ ls).length 0 [] (by omega) hrest
    refine Ev.congr (fun k => ?_) main
    rw [if_neg (by rw [List.length_map]; omega)]
end Go.Proofs.YthefdpioaapomaaDoor.Pu6
