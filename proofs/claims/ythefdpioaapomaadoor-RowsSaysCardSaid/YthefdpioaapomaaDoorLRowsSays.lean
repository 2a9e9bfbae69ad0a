/- The statement RowsSays holds, in plain words: its walked text comes to true at every input. No memory in sight. -/
import Derived.Test.YthefdpioaapomaaDoorLq7
import Derived.Test.YthefdpioaapomaaDoorPA9
namespace Go.Proofs.YthefdpioaapomaaDoor.Pu7
set_option linter.unusedVariables false
set_option linter.unusedSimpArgs false
open Go.RowKit Go.Proofs.YthefdpioaapomaaDoorW.PrintWords Go.Proofs.YthefdpioaapomaaDoorW.PrintLast Go.Proofs.YthefdpioaapomaaDoor.Ext Go.Proofs.YthefdpioaapomaaDoorW.PrintMore Go.Proofs.YthefdpioaapomaaDoor.PA Go.Proofs.YthefdpioaapomaaDoor.Pl

theorem says_loop (t c : Bs) (ht : t.length ≤ 2000) (rs : List Row) (hl : rs.length ≤ 2000) (hg : ∀ r ∈ rs, Good r) : ∀ (d i m : Nat), i + d = rs.length → (rs.filter (isKind c)).drop m = (rs.drop i).filter (isKind c) → m + ((rs.drop i).filter (isKind c)).length = (rs.filter (isKind c)).length →
    Ev (fun k => cubitlaw7_RowsSays.l0 k (ofL t) (ofL c) (rs.map t36) ((rs.filter (isKind c)).map t31) (m : Int) (i : Int)) true
  | 0, i, m, hd, hm, hc => by
    have b1 := blank_f t (by omega)
    have b2 := refBlank_f t (by omega)
    rw [List.drop_of_length_le (by omega)] at hc
    refine Ev.step (f := fun _ => some true) (fun k => ?_) (Ev.now true)
    simp only [cubitlaw7_RowsSays.l0]
    rw [if_neg (by rw [List.length_map]; omega), if_pos (by rw [List.length_map]; simp at hc; omega), b1, Option.bind_some, b2, Option.bind_some, if_pos rfl]
  | d + 1, i, m, hd, hm, hc => by
    have hi : i < rs.length := by omega
    have hgi := hg rs[i] (List.getElem_mem hi)
    have h1 := rd36 rs hi
    rw [List.drop_eq_getElem_cons hi] at hm hc
    generalize hr : rs[i] = r at hgi h1 hm hc
    have hw : (rdOf ByteArray.empty (t36 r).f1 0).toList = (ofL c).toList ↔ isKind c r = true := by
      rw [← head_test r c hgi.1, beq_iff_eq]; rfl
    have hne : 0 < (((t36 r).f1).length : Int) := by
      show (0 : Int) < ((r.ws.map ofL).length : Nat)
      rw [List.length_map]
      have := List.length_pos_iff.2 hgi.1
      omega
    cases hk : isKind c r with
    | false =>
      rw [List.filter_cons_of_neg (by rw [hk]; decide)] at hm hc
      refine Ev.step (fun k => ?_) (says_loop t c ht rs hl hg d (i + 1) m (by omega) hm hc)
      simp only [cubitlaw7_RowsSays.l0]
      rw [if_pos (by rw [List.length_map]; omega), if_pos (by omega), h1, if_pos hne, if_neg (fun e => by have := hw.1 e; rw [hk] at this; cases this), wrap_nat (by omega)]
    | true =>
      rw [List.filter_cons_of_pos hk] at hm hc
      have hmk : m < (rs.filter (isKind c)).length := by simp at hc; omega
      have hml : (rs.filter (isKind c)).length ≤ rs.length := List.length_filter_le ..
      have e1 : (rs.filter (isKind c))[m] = r := by
        have := List.drop_eq_getElem_cons hmk
        rw [hm] at this
        exact (List.cons.inj this).1.symm
      have e2 : (rs.filter (isKind c)).drop (m + 1) = (rs.drop (i + 1)).filter (isKind c) := by
        have := List.drop_eq_getElem_cons hmk
        rw [hm] at this
        exact (List.cons.inj this).2.symm
      have h2 := rd31 (rs.filter (isKind c)) hmk
      rw [e1] at h2
      apply Ev.step (f := fun k => (cubitlaw7_texts.f k (r.ws.map ofL) (r.ws.map ofL)).bind fun t273 => (cubitlaw7_RowsSays.j2 k (ofL t) (ofL c) (rs.map t36) ((rs.filter (isKind c)).map t31) (m : Int) (i : Int) (!t273)))
      · intro k
        simp only [cubitlaw7_RowsSays.l0]
        rw [if_pos (by rw [List.length_map]; omega), if_pos (by omega), h1, if_pos hne, if_pos (hw.2 hk), if_neg (by rw [List.length_map]; omega), if_pos (by omega), if_pos (by rw [List.length_map]; omega), h2, if_pos (show (t31 r).f0 = (t36 r).f0 from rfl)]
        rfl
      · refine Ev.bind (texts_ev _ (by rw [List.length_map]; have := hgi.lt; omega)) ?_
        refine Ev.step (fun k => ?_) (says_loop t c ht rs hl hg d (i + 1) (m + 1) (by omega) e2 (by simp at hc; omega))
        simp only [cubitlaw7_RowsSays.j2]
        rw [if_neg (by decide), wrap_nat (by omega), wrap_nat (by omega)]
theorem RowsSays_ev (t c : Bs) : Ev (fun k => cubitlaw7_RowsSays.f k (ofL t) (ofL c)) true := by
  unfold cubitlaw7_RowsSays.f
  refine Ev.bind awake_ev ?_
  simp only [if_true]
  by_cases h : 2000 < t.length
  · refine Ev.congr (fun k => ?_) (Ev.now true)
    rw [if_pos (by rw [ofL_size]; omega)]
  · have hp := parse_ev t
    have hq := refRows_ev t
    have main : Ev (fun n => (rows_Parse.f n (ofL t)).bind fun bt253 => ((cubitref6_Rows.f n (ofL t)).bind fun bt258 => (if bt253.2.2 = bt258.2.2 then (if bt253.2.1 = bt258.2.1 then ((cubitlaw7_alike.f n bt253.1 bt258.1).bind fun t263 => (cubitlaw7_RowsSays.j0 n (ofL t) (ofL c) bt253.1 bt258.1 (!t263))) else (cubitlaw7_RowsSays.j0 n (ofL t) (ofL c) bt253.1 bt258.1 true)) else (cubitlaw7_RowsSays.j0 n (ofL t) (ofL c) bt253.1 bt258.1 true)))) true := by
      have hsp : (parseB t).1.length ≤ 2000 ∧ ∀ r ∈ (parseB t).1, Good r := by
        rcases parseB_spec t with ⟨_, _, e3, e4, _⟩ | ⟨_, e2⟩
        · exact ⟨e3, e4⟩
        · rw [e2]; exact ⟨by decide, by simp⟩
      obtain ⟨e3, e4⟩ := hsp
      refine Ev.bind hp (Ev.bind hq ?_)
      simp only [r31, r36, if_true]
      refine Ev.bind (alike_ev _ (by omega) (fun r hr => by have := (e4 r hr).lt; omega)) ?_
      have hof := of_ev c (parseB t).1 (by omega) (fun r hr => ⟨(e4 r hr).1, (e4 r hr).lt⟩)
      apply Ev.step (f := fun k => (rows_Of.f k ((parseB t).1.map t31) (ofL c)).bind fun t264 => (cubitlaw7_RowsSays.l0 k (ofL t) (ofL c) ((parseB t).1.map t36) t264 0 0))
      · intro k
        simp only [cubitlaw7_RowsSays.j0]
        rw [if_neg (by decide)]
      · refine Ev.bind hof ?_
        exact says_loop t c (by omega) (parseB t).1 e3 e4 (parseB t).1.length 0 0 (by omega) rfl (by simp)
    refine Ev.congr (fun k => ?_) main
    rw [if_neg (by rw [ofL_size]; omega)]

end Go.Proofs.YthefdpioaapomaaDoor.Pu7
