/- The statement WordSays holds, in plain words, where the words put together are no longer than a machine's memory. No memory in sight. -/
import Derived.Test.YthefdpioaapomaaDoorRu6
import Derived.Test.YthefdpioaapomaaDoorPA12
namespace Go.Proofs.YthefdpioaapomaaDoor.Pu6
set_option linter.unusedVariables false
set_option linter.unusedSimpArgs false
open Go.RowKit Go.Proofs.YthefdpioaapomaaDoorW.PrintWords Go.Proofs.YthefdpioaapomaaDoorW.PrintLast Go.Proofs.YthefdpioaapomaaDoor.Ext Go.Proofs.YthefdpioaapomaaDoorW.PrintMore Go.Proofs.YthefdpioaapomaaDoor.PA Go.Proofs.YthefdpioaapomaaDoor.Pl

theorem cutGo_len (at_ : Bs) : ∀ (xs : List Bs) (pre : List (List Bs)) (cur : List Bs), (cutGo at_ xs pre cur).length ≤ pre.length + xs.length + 1
  | [], pre, cur => by simp [cutGo]
  | x :: xs, pre, cur => by
    rw [cutGo]
    split
    · have := cutGo_len at_ xs (pre ++ [cur]) []
      simp at this ⊢
      omega
    · have := cutGo_len at_ xs pre (cur ++ [x])
      simp at this ⊢
      omega
theorem le_total (r : List Bs) : ∀ c : List (List Bs), r ∈ c → r.length ≤ total c
  | [], h => by cases h
  | x :: c, h => by
    have e : total (x :: c) = x.length + total c := by simp [total]
    rw [e]
    rcases List.mem_cons.1 h with rfl | h
    · omega
    · have := le_total r c h
      omega
theorem cutW_row (at_ : Bs) (xs : List Bs) : ∀ r ∈ cutW at_ xs, r.length ≤ xs.length := by
  intro r hr
  obtain ⟨c1, c2⟩ := cut_counts at_ xs
  have : r.length ≤ total (cutW at_ xs) := le_total r _ hr
  omega
theorem says_end (s : Bs) (ls : List Bs) (hs : s.length ≤ 300) (h0 : ls.length ≤ 30) (h1 : (joinD ls).length ≤ 140737488355328) (c : List (List Bs)) (i : Nat) (hi : c.length ≤ i) :
    Ev (fun k => cubitlaw6_WordSays.l0 k (ofL s) (ls.map ofL) (rW (splitW s)).1 (rW (splitW s)).2 (rW (splitW s)).1 (rW (splitW s)).2 (rL c) (rL c) (i : Int)) true := by
  have hl : (rW (splitW s)).1.length < 1000000000000 := by
    unfold rW splitW
    rw [List.length_map]
    have := splitC_len 45 s
    split
    · simp
    · split <;> simp <;> omega
  have tx := texts_ev (rW (splitW s)).1 hl
  have g1 := good_f s
  have n1 := number_f s
  have g2 := refGood_ev s (by omega)
  have n2 := refNumber_ev s (by omega)
  have j1 := join_f ls (by omega) h1
  have j2 := refJoin_ev ls (by omega) h1
  apply Ev.step (f := fun k => (cubitlaw6_texts.f k (rW (splitW s)).1 (rW (splitW s)).1).bind fun t380 => (if t380 = true then ((cubitref6_GoodWord.f k (ofL s)).bind fun t382 => (if (goodW s == t382) = true then ((cubitref6_Number.f k (ofL s)).bind fun t384 => (if (numW s == t384) = true then ((cubitref6_Join.f k (ls.map ofL)).bind fun t386 => (if (ofL (joinD ls)).toList = t386.toList then (some true) else (some false))) else (some false))) else (some false))) else (some false)))
  · intro k
    simp only [cubitlaw6_WordSays.l0]
    rw [if_neg (by rw [rL_length]; omega), if_pos trivial, g1, Option.bind_some, n1, Option.bind_some, j1, Option.bind_some]
  · refine Ev.bind tx ?_
    simp only [if_true]
    refine Ev.bind g2 ?_
    simp only [beq_self_eq_true, if_true]
    refine Ev.bind n2 ?_
    simp only [beq_self_eq_true, if_true]
    refine Ev.bind j2 ?_
    simp only [if_true]
    exact Ev.now true
theorem says_l0 (s : Bs) (ls : List Bs) (hs : s.length ≤ 300) (h0 : ls.length ≤ 30) (h1 : (joinD ls).length ≤ 140737488355328) (c : List (List Bs)) (hc : c.length < 1000) (hr : ∀ r ∈ c, r.length ≤ 30) : ∀ (d i : Nat), i + d = c.length →
    Ev (fun k => cubitlaw6_WordSays.l0 k (ofL s) (ls.map ofL) (rW (splitW s)).1 (rW (splitW s)).2 (rW (splitW s)).1 (rW (splitW s)).2 (rL c) (rL c) (i : Int)) true
  | 0, i, hd => says_end s ls hs h0 h1 c i (by omega)
  | d + 1, i, hd => by
    have hi : i < c.length := by omega
    have tx := texts_ev (c[i].map ofL) (by rw [List.length_map]; have := hr _ (List.getElem_mem hi); omega)
    apply Ev.step (f := fun k => (cubitlaw6_texts.f k (c[i].map ofL) (c[i].map ofL)).bind fun t379 => (if t379 = true then (cubitlaw6_WordSays.l0 k (ofL s) (ls.map ofL) (rW (splitW s)).1 (rW (splitW s)).2 (rW (splitW s)).1 (rW (splitW s)).2 (rL c) (rL c) ((i + 1 : Nat) : Int)) else (some false)))
    · intro k
      simp only [cubitlaw6_WordSays.l0]
      rw [if_pos (by rw [rL_length]; omega), if_pos (by omega), if_pos (by rw [rL_length]; omega), rd_rL c hi, wrap_nat (by omega)]
    · refine Ev.bind tx ?_
      simp only [if_true]
      exact says_l0 s ls hs h0 h1 c hc hr d (i + 1) (by omega)
theorem WordSays_ev (s : Bs) (ls : List Bs) (at_ : Bs) (hsmall : (joinD ls).length ≤ 140737488355328) : Ev (fun k => cubitlaw6_WordSays.f k (ofL s) (ls.map ofL) (ofL at_)) true := by
  unfold cubitlaw6_WordSays.f
  refine Ev.bind awake_ev ?_
  simp only [if_true]
  have big : Ev (fun k => cubitlaw6_WordSays.j0 k (ofL s) (ls.map ofL) (ofL at_) true) true := by
    refine Ev.step (f := fun _ => some true) (fun k => ?_) (Ev.now true)
    simp only [cubitlaw6_WordSays.j0]
    rw [if_pos trivial]
  by_cases h : s.length ≤ 300
  · by_cases h2 : ls.length ≤ 30
    · have hcl := cutGo_len at_ ls [] []
      have hrow := cutW_row at_ ls
      have main : Ev (fun k => cubitlaw6_WordSays.j0 k (ofL s) (ls.map ofL) (ofL at_) false) true := by
        apply Ev.step (f := fun k => (word_Split.f k (ofL s)).bind fun bt363 => ((cubitref6_Split.f k (ofL s)).bind fun bt367 => ((word_Cut.f k (ls.map ofL) (ofL at_)).bind fun t371 => (if (t371.length : Int) = ((rL (cutW at_ ls)).length : Int) then (cubitlaw6_WordSays.l0 k (ofL s) (ls.map ofL) bt363.1 bt363.2 bt367.1 bt367.2 t371 (rL (cutW at_ ls)) 0) else (some false)))))
        · intro k
          simp only [cubitlaw6_WordSays.j0]
          rw [if_neg (by decide), refCut_f at_ ls (by omega)]
          rfl
        · refine Ev.bind (split_ev s) (Ev.bind (refSplit_ev s) (Ev.bind (cut_ev at_ ls (by omega)) ?_))
          simp only [if_true]
          exact says_l0 s ls h h2 hsmall (cutW at_ ls) (by have : (cutW at_ ls).length = (cutGo at_ ls [] []).length := rfl; simp at hcl; omega) (fun r hr => by have := hrow r hr; omega) (cutW at_ ls).length 0 (by omega)
      refine Ev.congr (fun k => ?_) main
      rw [if_neg (by rw [ofL_size]; omega), decide_eq_false (by rw [List.length_map]; omega)]
    · refine Ev.congr (fun k => ?_) big
      rw [if_neg (by rw [ofL_size]; omega), decide_eq_true (by rw [List.length_map]; omega)]
  · refine Ev.congr (fun k => ?_) big
    rw [if_pos (by rw [ofL_size]; omega)]
theorem joinD_le (xs : List ByteArray) : (joinD (xs.map (·.data.toList))).length ≤ (xs.map (fun s => s.size + 1)).sum := by
  induction xs with
  | nil => exact Nat.zero_le _
  | cons x xs ih =>
    cases xs with
    | nil =>
      show (joinD [x.data.toList]).length ≤ _
      rw [joinD_one, ← Lib.size_eq]
      simp
    | cons y xs =>
      simp only [List.map_cons, List.sum_cons] at ih ⊢
      rw [joinD_cons, List.length_append, List.length_cons, ← Lib.size_eq]
      omega
end Go.Proofs.YthefdpioaapomaaDoor.Pu6
