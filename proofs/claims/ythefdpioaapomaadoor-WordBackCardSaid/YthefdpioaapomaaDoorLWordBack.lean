/- The statement WordBack holds, in plain words: its walked text comes to true at every input. No memory in sight. -/
import Derived.Test.YthefdpioaapomaaDoorLq6
import Derived.Test.YthefdpioaapomaaDoorPA14
namespace Go.Proofs.YthefdpioaapomaaDoor.Pu6
set_option linter.unusedVariables false
set_option linter.unusedSimpArgs false
open Go.RowKit Go.Proofs.YthefdpioaapomaaDoorW.PrintWords Go.Proofs.YthefdpioaapomaaDoorW.PrintLast Go.Proofs.YthefdpioaapomaaDoor.Ext Go.Proofs.YthefdpioaapomaaDoorW.PrintMore Go.Proofs.YthefdpioaapomaaDoor.PA Go.Proofs.YthefdpioaapomaaDoor.Pl

theorem total_cons (x : List Bs) (c : List (List Bs)) : total (x :: c) = x.length + total c := by simp [total]
theorem cnt_cons_miss {at_ w : Bs} (h : w ≠ at_) (ws : List Bs) : cnt at_ (w :: ws) = cnt at_ ws := by simp [cnt, h]
theorem back_l1 (ls : List Bs) (h0 : ls ≠ []) (h1 : ls.length ≤ 12) (hg : ∀ w ∈ ls, goodW w = true) (c : List (List Bs)) (n : Nat) (hc : c.length = n + 1) (ht : total c + n = ls.length) : ∀ (d i k : Nat), i + d = c.length → k + total (c.drop i) = total c →
    Ev (fun r => cubitlaw6_WordBack.l1 r (ls.map ofL) (n : Int) (ls.map ofL) 0 (rL c) (k : Int) (i : Int)) true
  | 0, i, k, hd, hk => by
    obtain ⟨_, hj2⟩ := split_told ls h0 h1 hg
    have hj := join_f ls (by omega) (by omega)
    have tx := texts_ev (ls.map ofL) (by rw [List.length_map]; omega)
    rw [List.drop_of_length_le (by omega)] at hk
    have hk : k = total c := by simpa [total] using hk
    apply Ev.step (f := fun r => (cubitlaw6_texts.f r (ls.map ofL) (ls.map ofL)).bind fun t401 => (if t401 = true then (if ((rL c).length : Int) = (wrap64 ((n : Int) + 1)) then (if (k : Int) = (wrap64 (((ls.map ofL).length : Int) - (n : Int))) then (some true) else (some false)) else (some false)) else (some false)))
    · intro r
      simp only [cubitlaw6_WordBack.l1]
      rw [if_neg (by rw [rL_length]; omega), hj, Option.bind_some, decide_eq_false (by rw [ofL_size]; omega), if_pos (show ((((0 : Int) == 11) == false) = true) from rfl), if_pos trivial]
    · refine Ev.bind tx ?_
      refine Ev.congr (fun r => ?_) (Ev.now true)
      rw [if_pos rfl, if_pos (by rw [rL_length, wrap_nat (by omega), hc]), if_pos (by rw [List.length_map]; unfold wrap64; omega)]
  | d + 1, i, k, hd, hk => by
    have hi : i < c.length := by omega
    rw [List.drop_eq_getElem_cons hi, total_cons] at hk
    have hk2 : k + c[i].length + total (c.drop (i + 1)) = total c := by omega
    refine Ev.step (fun r => ?_) (back_l1 ls h0 h1 hg c n hc ht d (i + 1) (k + c[i].length) (by omega) hk2)
    simp only [cubitlaw6_WordBack.l1]
    rw [if_pos (by rw [rL_length]; omega), if_pos (by omega), rd_rL c hi, List.length_map, wrap_nat (by omega)]
    congr 1
    unfold wrap64
    omega
theorem back_l0 (ls : List Bs) (at_ : Bs) (h0 : ls ≠ []) (h1 : ls.length ≤ 12) : ∀ (d i n : Nat), i + d = ls.length → n + cnt at_ (ls.drop i) = cnt at_ ls → n ≤ i → (∀ w ∈ ls.take i, goodW w = true) →
    Ev (fun r => cubitlaw6_WordBack.l0 r (ls.map ofL) (ofL at_) (n : Int) (i : Int)) true
  | 0, i, n, hd, hn, hni, hg => by
    have hg : ∀ w ∈ ls, goodW w = true := by rwa [List.take_of_length_le (by omega)] at hg
    rw [List.drop_of_length_le (by omega)] at hn
    have hn : n = cnt at_ ls := by simpa [cnt] using hn
    obtain ⟨hj1, hj2⟩ := split_told ls h0 h1 hg
    have hj := join_f ls (by omega) (by omega)
    have sp := split_ev (joinD ls)
    rw [hj1] at sp
    have ct := cut_ev at_ ls (by omega)
    obtain ⟨c1, c2⟩ := cut_counts at_ ls
    apply Ev.step (f := fun r => (word_Split.f r (ofL (joinD ls))).bind fun bt392 => ((word_Cut.f r (ls.map ofL) (ofL at_)).bind fun t396 => (cubitlaw6_WordBack.l1 r (ls.map ofL) (n : Int) bt392.1 bt392.2 t396 0 0)))
    · intro r
      simp only [cubitlaw6_WordBack.l0]
      rw [if_neg (by rw [List.length_map]; omega), hj, Option.bind_some]
    · refine Ev.bind sp (Ev.bind ct ?_)
      exact back_l1 ls h0 h1 hg (cutW at_ ls) n (by rw [c1, hn]) (by rw [hn]; exact c2) (cutW at_ ls).length 0 0 (by omega) (by simp)
  | d + 1, i, n, hd, hn, hni, hg => by
    have hi : i < ls.length := by omega
    rw [List.drop_eq_getElem_cons hi] at hn
    cases hgi : goodW ls[i] with
    | false =>
      refine Ev.step (f := fun _ => some true) (fun r => ?_) (Ev.now true)
      simp only [cubitlaw6_WordBack.l0]
      rw [if_pos (by rw [List.length_map]; omega), if_pos (by omega), rd_map ls hi, good_f, Option.bind_some, hgi, if_neg (by decide)]
    | true =>
      have hg2 : ∀ w ∈ ls.take (i + 1), goodW w = true := by
        intro w hw
        rw [List.take_succ_eq_append_getElem hi] at hw
        rcases List.mem_append.1 hw with h | h
        · exact hg w h
        · rw [List.mem_singleton.1 h]; exact hgi
      by_cases he : ls[i] = at_
      · rw [he, cnt_cons_hit] at hn
        refine Ev.step (fun r => ?_) (back_l0 ls at_ h0 h1 d (i + 1) (n + 1) (by omega) (by omega) (by omega) hg2)
        simp only [cubitlaw6_WordBack.l0]
        rw [if_pos (by rw [List.length_map]; omega), if_pos (by omega), rd_map ls hi, good_f, Option.bind_some, hgi, if_pos rfl, if_pos (by rw [he]), wrap_nat (by omega), wrap_nat (by omega)]
      · rw [cnt_cons_miss he] at hn
        refine Ev.step (fun r => ?_) (back_l0 ls at_ h0 h1 d (i + 1) n (by omega) hn (by omega) hg2)
        simp only [cubitlaw6_WordBack.l0]
        rw [if_pos (by rw [List.length_map]; omega), if_pos (by omega), rd_map ls hi, good_f, Option.bind_some, hgi, if_pos rfl, if_neg (by rw [ofL_toList, ofL_toList]; exact he), wrap_nat (by omega)]
theorem WordBack_ev (ls : List Bs) (at_ : Bs) : Ev (fun k => cubitlaw6_WordBack.f k (ls.map ofL) (ofL at_)) true := by
  unfold cubitlaw6_WordBack.f
  refine Ev.bind awake_ev ?_
  simp only [if_true]
  by_cases h : 1 ≤ ls.length ∧ ls.length ≤ 12
  · have main : Ev (fun k => cubitlaw6_WordBack.j0 k (ls.map ofL) (ofL at_) false) true := by
      refine Ev.step (fun k => ?_) (back_l0 ls at_ (fun e => by rw [e] at h; exact absurd h.1 (by decide)) h.2 ls.length 0 0 (by omega) (by simp) (by omega) (by simp))
      simp only [cubitlaw6_WordBack.j0]
      rw [if_neg (by decide)]
      rfl
    refine Ev.congr (fun k => ?_) main
    rw [if_neg (by rw [List.length_map]; omega), decide_eq_false (by rw [List.length_map]; omega)]
  · have big : Ev (fun k => cubitlaw6_WordBack.j0 k (ls.map ofL) (ofL at_) true) true := by
      refine Ev.step (f := fun _ => some true) (fun k => ?_) (Ev.now true)
      simp only [cubitlaw6_WordBack.j0]
      rw [if_pos trivial]
    refine Ev.congr (fun k => ?_) big
    split
    · rfl
    · rename_i hn
      rw [List.length_map] at hn
      rw [decide_eq_true (by rw [List.length_map]; omega)]
end Go.Proofs.YthefdpioaapomaaDoor.Pu6
