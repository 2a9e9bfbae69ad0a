/- The statement RowsBack holds, in plain words: its walked text comes to true at every input. No memory in sight. -/
import Derived.Test.YthefdpioaapomaaDoorLq7
import Derived.Test.YthefdpioaapomaaDoorPA3
namespace Go.Proofs.YthefdpioaapomaaDoor.Pu7
set_option linter.unusedVariables false
set_option linter.unusedSimpArgs false
open Go.RowKit Go.Proofs.YthefdpioaapomaaDoorW.PrintWords Go.Proofs.YthefdpioaapomaaDoorW.PrintLast Go.Proofs.YthefdpioaapomaaDoor.Ext Go.Proofs.YthefdpioaapomaaDoorW.PrintMore Go.Proofs.YthefdpioaapomaaDoor.PA Go.Proofs.YthefdpioaapomaaDoor.Pl

theorem back_loop (rs : List Row) (hl : rs.length ≤ 2000) (hg : ∀ r ∈ rs, Good r) (hs : (showW rs).length ≤ 65536) : ∀ (d i : Nat), i + d = rs.length → Ev (fun k => cubitlaw7_RowsBack.l0 k (rs.map t31) ((num 0 rs).map t31) (i : Int)) true
  | 0, i, hd => by
    have s1 := show_f rs (by omega) (fun r hr => (hg r hr).lt)
    have s2 := show_f (num 0 rs) (by rw [showW_num]; omega) (fun r hr => by
      obtain ⟨j, hj, rfl⟩ := List.getElem_of_mem hr
      rw [num_length] at hj
      rw [num_get rs 0 j hj]
      exact (hg rs[j] (List.getElem_mem hj)).lt)
    rw [showW_num] at s2
    refine Ev.step (f := fun _ => some true) (fun k => ?_) (Ev.now true)
    simp only [cubitlaw7_RowsBack.l0]
    rw [if_neg (by rw [List.length_map]; omega), s2, Option.bind_some, s1, Option.bind_some, if_pos rfl]
  | d + 1, i, hd => by
    have hi : i < rs.length := by omega
    have h1 := rd31 rs hi
    have h2 := rd31 (num 0 rs) (i := i) (by rw [num_length]; exact hi)
    rw [num_get rs 0 i hi, Nat.zero_add] at h2
    have hw := (hg rs[i] (List.getElem_mem hi)).lt
    apply Ev.step (f := fun k => (cubitlaw7_texts.f k (rs[i].ws.map ofL) (rs[i].ws.map ofL)).bind fun t156 => (if t156 = true then (cubitlaw7_RowsBack.j2 k (rs.map t31) ((num 0 rs).map t31) (i : Int) ((((i : Int) + 1)) != (wrap64 ((i : Int) + 1)))) else (cubitlaw7_RowsBack.j2 k (rs.map t31) ((num 0 rs).map t31) (i : Int) true)))
    · intro k
      simp only [cubitlaw7_RowsBack.l0]
      rw [if_pos (by rw [List.length_map]; omega), if_pos (by omega), if_pos (by rw [List.length_map, num_length]; omega), h1, h2]
      rfl
    · refine Ev.bind (texts_ev _ (by rw [List.length_map]; omega)) ?_
      have e : ((i : Int) + 1 != wrap64 ((i : Int) + 1)) = false := by rw [wrap_nat (by omega)]; simp
      rw [e]
      simp only [if_true]
      refine Ev.step (fun k => ?_) (back_loop rs hl hg hs d (i + 1) (by omega))
      simp only [cubitlaw7_RowsBack.j2]
      rw [if_neg (by decide), wrap_nat (by omega)]
theorem RowsBack_ev (t : Bs) : Ev (fun k => cubitlaw7_RowsBack.f k (ofL t)) true := by
  unfold cubitlaw7_RowsBack.f
  refine Ev.bind awake_ev ?_
  simp only [if_true]
  by_cases h : 2000 < t.length
  · refine Ev.congr (fun k => ?_) (Ev.now true)
    rw [if_pos (by rw [ofL_size]; omega)]
  · have hp := parse_ev t
    have e0 : (fun n => (if ((ofL t).size : Int) > 2000 then some true else (rows_Parse.f n (ofL t)).bind fun bt143 => (if bt143.2.2 = 0 then ((rows_Show.f bt143.1).bind fun t148 => ((rows_Parse.f n t148).bind fun bt149 => (if bt149.2.2 = 0 then (cubitlaw7_RowsBack.j0 n bt143.1 bt149.1 ((bt149.1.length : Int) != (bt143.1.length : Int))) else (cubitlaw7_RowsBack.j0 n bt143.1 bt149.1 true)))) else (if (bt143.1.length : Int) = 0 then (some true) else (some false))))) = (fun n => (rows_Parse.f n (ofL t)).bind fun bt143 => (if bt143.2.2 = 0 then ((rows_Show.f bt143.1).bind fun t148 => ((rows_Parse.f n t148).bind fun bt149 => (if bt149.2.2 = 0 then (cubitlaw7_RowsBack.j0 n bt143.1 bt149.1 ((bt149.1.length : Int) != (bt143.1.length : Int))) else (cubitlaw7_RowsBack.j0 n bt143.1 bt149.1 true)))) else (if (bt143.1.length : Int) = 0 then (some true) else (some false)))) := by
      funext n
      rw [if_neg (by rw [ofL_size]; omega)]
    refine Ev.congr (fun k => congrFun e0 k) ?_
    refine Ev.bind hp ?_
    simp only [r31]
    rcases parseB_spec t with ⟨e1, e2, e3, e4, e5⟩ | ⟨e1, e2⟩
    · simp only [e1, if_true]
      rw [show_f _ (by omega) (fun r hr => (e4 r hr).lt)]
      simp only [Option.bind_some]
      have hp2 := parse_ev (showW (parseB t).1)
      rw [parse_show _ e4 e3 (by omega)] at hp2
      refine Ev.bind hp2 ?_
      simp only [r31, if_true, List.length_map, num_length]
      rw [show (((parseB t).1.length : Int) != ((parseB t).1.length : Int)) = false by simp]
      refine Ev.step (fun k => ?_) (back_loop _ e3 e4 (by omega) (parseB t).1.length 0 (by omega))
      simp only [cubitlaw7_RowsBack.j0]
      rw [if_neg (by decide)]
      rfl
    · simp only [e1, if_false, e2, List.map_nil, List.length_nil]
      exact Ev.now true

end Go.Proofs.YthefdpioaapomaaDoor.Pu7
