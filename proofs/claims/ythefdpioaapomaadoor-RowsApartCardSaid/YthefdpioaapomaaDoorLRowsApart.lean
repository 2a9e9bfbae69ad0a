/- The statement RowsApart holds, in plain words: its walked text comes to true at every input. No memory in sight. -/
import Derived.Test.YthefdpioaapomaaDoorLq7
import Derived.Test.YthefdpioaapomaaDoorPA4
namespace Go.Proofs.YthefdpioaapomaaDoor.Pu7
set_option linter.unusedVariables false
set_option linter.unusedSimpArgs false
open Go.RowKit Go.Proofs.YthefdpioaapomaaDoorW.PrintWords Go.Proofs.YthefdpioaapomaaDoorW.PrintLast Go.Proofs.YthefdpioaapomaaDoor.Ext Go.Proofs.YthefdpioaapomaaDoorW.PrintMore Go.Proofs.YthefdpioaapomaaDoor.PA Go.Proofs.YthefdpioaapomaaDoor.Pl

theorem rd31_app_left (xs ys : List Row) {i : Nat} (h : i < xs.length) : rd_T31 ((xs ++ ys).map t31) (i : Int) = t31 xs[i] := by
  rw [rd31 (xs ++ ys) (by rw [List.length_append]; omega), List.getElem_append_left h]
theorem apart_loop (xs ys : List Row) (s : Int) (hl : xs.length + ys.length ≤ 2000) (hx : ∀ r ∈ xs, Good r) (hy : ∀ r ∈ ys, Good r) : ∀ (d i : Nat), i + d = xs.length + ys.length →
    Ev (fun k => cubitlaw7_RowsApart.l0 k (xs.map t31) (ys.map t31) ((xs ++ ys.map (shift s)).map t31) (i : Int)) true
  | 0, i, hd => by
    refine Ev.step (f := fun _ => some true) (fun k => ?_) (Ev.now true)
    simp only [cubitlaw7_RowsApart.l0]
    rw [if_neg (by simp; omega)]
  | d + 1, i, hd => by
    have hlen : ((xs ++ ys.map (shift s)).map t31).length = xs.length + ys.length := by simp
    have ih := apart_loop xs ys s hl hx hy d (i + 1) (by omega)
    by_cases hi : i < xs.length
    · have h1 := rd31 xs hi
      have h2 := rd31_app_left xs (ys.map (shift s)) hi
      have hw := (hx xs[i] (List.getElem_mem hi)).lt
      apply Ev.step (f := fun k => (cubitlaw7_texts.f k (xs[i].ws.map ofL) (xs[i].ws.map ofL)).bind fun t178 => (if t178 = true then cubitlaw7_RowsApart.l0 k (xs.map t31) (ys.map t31) ((xs ++ ys.map (shift s)).map t31) ((i + 1 : Nat) : Int) else some false))
      · intro k
        simp only [cubitlaw7_RowsApart.l0]
        rw [if_pos (by rw [hlen]; omega), if_pos (by omega), if_pos (by rw [List.length_map]; omega), h1, h2]
        congr 1
        funext b
        cases b with
        | false => rfl
        | true => rw [if_pos rfl, if_pos rfl, if_pos rfl, if_neg (by rw [List.length_map]; omega), wrap_nat (by omega)]
      · refine Ev.bind (texts_ev _ (by rw [List.length_map]; omega)) ?_
        simp only [if_true]
        exact ih
    · obtain ⟨j, rfl⟩ : ∃ j, i = xs.length + j := ⟨i - xs.length, by omega⟩
      have hj : j < ys.length := by omega
      have h1 := rd31 ys hj
      have h2 : rd_T31 ((xs ++ ys.map (shift s)).map t31) ((xs.length + j : Nat) : Int) = t31 (shift s ys[j]) := by
        rw [rd31 (xs ++ ys.map (shift s)) (by simp; omega), List.getElem_append_right (by omega)]
        simp
      have hw := (hy ys[j] (List.getElem_mem hj)).lt
      have hwr : wrap64 (((xs.length + j : Nat) : Int) - (((xs.map t31).length : Nat) : Int)) = (j : Int) := by rw [List.length_map]; unfold wrap64; omega
      apply Ev.step (f := fun k => (cubitlaw7_texts.f k (ys[j].ws.map ofL) (ys[j].ws.map ofL)).bind fun t184 => (if t184 = true then cubitlaw7_RowsApart.l0 k (xs.map t31) (ys.map t31) ((xs ++ ys.map (shift s)).map t31) ((xs.length + j + 1 : Nat) : Int) else some false))
      · intro k
        simp only [cubitlaw7_RowsApart.l0]
        rw [if_pos (by rw [hlen]; omega), if_pos (by omega), if_neg (by rw [List.length_map]; omega), if_pos (by rw [List.length_map]; omega), hwr, if_pos (by omega), if_pos (by rw [List.length_map]; omega), h1, h2, wrap_nat (by omega)]
        rfl
      · refine Ev.bind (texts_ev _ (by rw [List.length_map]; omega)) ?_
        simp only [if_true]
        exact ih
theorem RowsApart_ev (a b : Bs) : Ev (fun k => cubitlaw7_RowsApart.f k (ofL a) (ofL b)) true := by
  unfold cubitlaw7_RowsApart.f
  refine Ev.bind awake_ev ?_
  simp only [if_true]
  by_cases h : a.length ≤ 800 ∧ b.length ≤ 800
  · obtain ⟨ha, hb⟩ := h
    have main : Ev (fun k => cubitlaw7_RowsApart.j0 k (ofL a) (ofL b) false) true := by
      have pa := parse_ev a
      have pb := parse_ev b
      have pc := parse_ev (a ++ 10 :: b)
      have ec : ofL a ++ (⟨#[10]⟩ : ByteArray) ++ ofL b = ofL (a ++ 10 :: b) := by
        rw [show (⟨#[10]⟩ : ByteArray) = ofL [10] from rfl, ofL_append, ofL_append, List.append_assoc]
        rfl
      apply Ev.step (f := fun k => (rows_Parse.f k (ofL a)).bind fun bt161 => ((rows_Parse.f k (ofL b)).bind fun bt166 => ((rows_Parse.f k (ofL (a ++ 10 :: b))).bind fun bt171 => (if bt161.2.2 = 0 then (cubitlaw7_RowsApart.j1 k bt161.1 bt166.1 bt171.1 bt171.2.1 bt171.2.2 (bt166.2.2 != 0)) else (cubitlaw7_RowsApart.j1 k bt161.1 bt166.1 bt171.1 bt171.2.1 bt171.2.2 true)))))
      · intro k
        simp only [cubitlaw7_RowsApart.j0]
        have s1 : (ofL a).size + 1 ≤ 9223372036854775807 := by rw [ofL_size]; omega
        have s2 : (ofL a ++ (⟨#[10]⟩ : ByteArray)).size + (ofL b).size ≤ 9223372036854775807 := by rw [show (⟨#[10]⟩ : ByteArray) = ofL [10] from rfl, ofL_append, ofL_size, ofL_size]; simp; omega
        rw [if_neg (by decide)]
        simp only [if_pos s1, if_pos s2, ec]
      · refine Ev.bind pa (Ev.bind pb (Ev.bind pc ?_))
        simp only [r31]
        obtain ⟨k1, k2⟩ := parse_apart a b ha hb
        by_cases hz : (parseB a).2.2 = 0 ∧ (parseB b).2.2 = 0
        · obtain ⟨za, zb⟩ := hz
          have k2 := k2 za zb
          simp only [za, zb, if_true, k2, bne_self_eq_false]
          rcases parseB_spec a with ⟨_, _, a3, a4, _⟩ | ⟨e, _⟩
          · rcases parseB_spec b with ⟨_, _, b3, b4, _⟩ | ⟨e, _⟩
            · have hsum : (parseB a).1.length + (parseB b).1.length ≤ 2000 := by
                have la := splitC_len 10 a
                have lb := splitC_len 10 b
                have sa := parseGo_spec (splitC 10 a) 0 [] (by decide)
                have sb := parseGo_spec (splitC 10 b) 0 [] (by decide)
                unfold parseB at za zb ⊢
                rw [if_neg (by omega)] at za zb
                rw [if_neg (by omega), if_neg (by omega)]
                rcases sa with ⟨_, _, R, r3, _, r5, _⟩ | ⟨e, _⟩
                · rcases sb with ⟨_, _, R', r3', _, r5', _⟩ | ⟨e, _⟩
                  · rw [List.nil_append] at r3 r3'
                    rw [r3, r3']; omega
                  · exact absurd zb e
                · exact absurd za e
              have lp := apart_loop (parseB a).1 (parseB b).1 ((splitC 10 a).length : Nat) hsum a4 b4 ((parseB a).1.length + (parseB b).1.length) 0 (by omega)
              apply Ev.step (f := fun k => cubitlaw7_RowsApart.j2 k ((parseB a).1.map t31) ((parseB b).1.map t31) (((parseB a).1 ++ (parseB b).1.map (shift ((splitC 10 a).length : Nat))).map t31) false)
              · intro k
                simp only [cubitlaw7_RowsApart.j1]
                rw [if_neg (by decide), if_pos trivial]
                congr 1
                have : wrap64 (((((parseB a).1.map t31).length : Nat) : Int) + ((((parseB b).1.map t31).length : Nat) : Int)) = (((parseB a).1.length + (parseB b).1.length : Nat) : Int) := by
                  rw [List.length_map, List.length_map]; unfold wrap64; omega
                rw [this]
                simp
              · refine Ev.step (fun k => ?_) lp
                simp only [cubitlaw7_RowsApart.j2]
                rw [if_neg (by decide)]
                rfl
            · exact absurd zb e
          · exact absurd za e
        · have hne : (parseB a).2.2 ≠ 0 ∨ (parseB b).2.2 ≠ 0 := by
            by_cases za : (parseB a).2.2 = 0
            · exact .inr fun zb => hz ⟨za, zb⟩
            · exact .inl za
          obtain ⟨c1, c2⟩ := k1 hne
          have fin : Ev (fun k => cubitlaw7_RowsApart.j1 k ((parseB a).1.map t31) ((parseB b).1.map t31) ((parseB (a ++ 10 :: b)).1.map t31) (parseB (a ++ 10 :: b)).2.1 (parseB (a ++ 10 :: b)).2.2 true) true := by
            refine Ev.step (f := fun _ => some true) (fun k => ?_) (Ev.now true)
            simp only [cubitlaw7_RowsApart.j1]
            rw [if_pos trivial, if_neg c1, if_pos c2]
          by_cases za : (parseB a).2.2 = 0
          · refine Ev.congr (fun k => ?_) fin
            refine (if_pos za).trans ?_
            rw [show ((parseB b).2.2 != 0) = true from bne_iff_ne.2 (hne.elim (fun e => absurd za e) id)]
          · refine Ev.congr (fun k => ?_) fin
            exact if_neg za
    refine Ev.congr (fun k => ?_) main
    rw [if_neg (by rw [ofL_size]; omega), decide_eq_false (by rw [ofL_size]; omega)]
  · have big : Ev (fun k => cubitlaw7_RowsApart.j0 k (ofL a) (ofL b) true) true := by
      refine Ev.step (f := fun _ => some true) (fun k => ?_) (Ev.now true)
      simp only [cubitlaw7_RowsApart.j0]
      rw [if_pos trivial]
    refine Ev.congr (fun k => ?_) big
    split
    · rfl
    · rename_i hn
      rw [ofL_size] at hn
      rw [decide_eq_true (by rw [ofL_size]; omega)]

end Go.Proofs.YthefdpioaapomaaDoor.Pu7
