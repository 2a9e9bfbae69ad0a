/- The statement RowsKnown holds, in plain words: its walked text comes to true at every input. No memory in sight. -/
import Derived.Test.YthefdpioaapomaaDoorLq7
import Derived.Test.YthefdpioaapomaaDoorPA6
namespace Go.Proofs.YthefdpioaapomaaDoor.Pu7
set_option linter.unusedVariables false
set_option linter.unusedSimpArgs false
open Go.RowKit Go.Proofs.YthefdpioaapomaaDoorW.PrintWords Go.Proofs.YthefdpioaapomaaDoorW.PrintLast Go.Proofs.YthefdpioaapomaaDoor.Ext Go.Proofs.YthefdpioaapomaaDoorW.PrintMore Go.Proofs.YthefdpioaapomaaDoor.PA Go.Proofs.YthefdpioaapomaaDoor.Pl

def rep (w : Bs) : Nat → Bs
  | 0 => []
  | n + 1 => rep w n ++ w
theorem rep_length (w : Bs) : ∀ n, (rep w n).length = n * w.length
  | 0 => by simp [rep]
  | n + 1 => by rw [rep, List.length_append, rep_length w n, Nat.succ_mul]
theorem rep_comm (w : Bs) : ∀ n, w ++ rep w n = rep w n ++ w
  | 0 => by simp [rep]
  | n + 1 => by rw [rep, ← List.append_assoc, rep_comm w n]
theorem split_rep : ∀ n, splitC 10 (rep [97, 10] n) = List.replicate n [97] ++ [[]]
  | 0 => rfl
  | n + 1 => by
    rw [rep, ← rep_comm]
    show splitC 10 ([97] ++ 10 :: rep [97, 10] n) = _
    rw [splitC_word 10 [97] _ (by decide), split_rep n]
    rfl
theorem parseGo_many : ∀ (m i : Nat) (out : List Row), out.length = i → i + m = 2000 → parseGo (List.replicate (m + 1) [97] ++ [[]]) i out = ([], 2001, 11)
  | 0, i, out, ho, hi => by
    show parseGo ([97] :: [[]]) i out = _
    rw [parseGo, if_neg (by decide), if_neg (by decide), if_pos (by omega)]
    congr 2
    omega
  | m + 1, i, out, ho, hi => by
    rw [List.replicate_succ, List.cons_append, parseGo, if_neg (by decide), if_neg (by decide), if_neg (by omega)]
    exact parseGo_many m (i + 1) _ (by simp; omega) (by omega)
theorem parse_many : parseB (rep [97, 10] 2001) = ([], 2001, 11) := by
  unfold parseB
  rw [if_neg (by rw [rep_length]; decide), split_rep]
  exact parseGo_many 2000 0 [] rfl rfl
theorem parse_wide : parseB (rep [97, 32] 25) = ([], 1, 2) := by rfl
theorem known_a : parseB [10, 32, 32, 120, 32, 32, 121, 35, 122, 32, 35, 113, 10, 35, 10, 10, 122, 10] = ([⟨2, [[120], [121, 35, 122]]⟩, ⟨5, [[122]]⟩], 0, 0) := by rfl
theorem known_b : parseB [97, 10, 98, 9, 99] = ([], 2, 2) := by rfl
theorem known_c : parseB [97, 10, 35, 32, 128] = ([], 2, 2) := by rfl
theorem parse_long (s : Bs) (h : 65536 < s.length) : parseB s = ([], 0, 11) := by
  unfold parseB
  rw [if_pos h]
def rsA : List Row := [⟨2, [[120], [121, 35, 122]]⟩, ⟨5, [[122]]⟩]
theorem known_l2 : ∀ (d : Nat) (s : Bs), 1 ≤ s.length → s.length ≤ 200000 → 65536 < s.length + d → Ev (fun k => cubitlaw7_RowsKnown.l2 k (rsA.map t31) 0 2 2 2 2 1 2 2001 11 (ofL s)) true
  | d, s, h1, hs, hd => by
    by_cases h : s.length ≤ 65536
    · cases d with
      | zero => omega
      | succ d =>
        refine Ev.step (fun k => ?_) (known_l2 d (s ++ s) (by simp; omega) (by simp; omega) (by simp; omega))
        simp only [cubitlaw7_RowsKnown.l2]
        rw [if_pos (by rw [ofL_size]; omega), if_pos (by rw [ofL_size]; omega), ofL_append]
    · have hp := parse_ev s
      rw [parse_long s (by omega)] at hp
      have hz := of_ev [122] rsA (by decide) (by unfold rsA; simp)
      have hq := of_ev [113] rsA (by decide) (by unfold rsA; simp)
      have ha := alike_ev rsA (by decide) (by unfold rsA; simp)
      apply Ev.step (f := fun k => (rows_Parse.f k (ofL s)).bind fun bt220 => ((rows_Of.f k (rsA.map t31) (ofL [122])).bind fun t225 => ((cubitlaw7_alike.f k (rsA.map t31) (rsA.map t36)).bind fun t237 => (if t237 = true then (if bt220.2.1 = 0 then (if bt220.2.2 = 11 then (if (t225.length : Int) = 1 then (if 0 < (t225.length : Int) then (if ((rd_T31 t225 0).f0) = 5 then ((rows_Of.f k (rsA.map t31) (ofL [113])).bind fun t239 => (if (t239.length : Int) = 0 then (some true) else (some false))) else (some false)) else (none)) else (some false)) else (some false)) else (some false)) else (some false)))))
      · intro k
        simp only [cubitlaw7_RowsKnown.l2]
        rw [if_neg (by rw [ofL_size]; omega)]
        rfl
      · refine Ev.bind hp (Ev.bind hz (Ev.bind ha ?_))
        simp only [r31, if_true]
        have e : Ev (fun k => (rows_Of.f k (rsA.map t31) (ofL [113])).bind fun t239 => (if (t239.length : Int) = 0 then (some true) else (some false))) true := by
          refine Ev.bind hq ?_
          exact Ev.now true
        exact e
theorem known_l1 : ∀ (d i : Nat), i + d = 2001 → Ev (fun k => cubitlaw7_RowsKnown.l1 k (rsA.map t31) 0 2 2 2 2 1 2 (ofL (rep [97, 10] i)) (i : Int)) true
  | 0, i, h => by
    obtain rfl : i = 2001 := by omega
    have hp := parse_ev (rep [97, 10] 2001)
    rw [parse_many] at hp
    apply Ev.step (f := fun k => (rows_Parse.f k (ofL (rep [97, 10] 2001))).bind fun bt215 => (cubitlaw7_RowsKnown.l2 k (rsA.map t31) 0 2 2 2 2 1 2 bt215.2.1 bt215.2.2 (ofL (rep [97, 10] 2001))))
    · intro k
      simp only [cubitlaw7_RowsKnown.l1]
      rw [if_neg (by decide)]
    · refine Ev.bind hp ?_
      exact known_l2 65536 (rep [97, 10] 2001) (by rw [rep_length]; decide) (by rw [rep_length]; decide) (by rw [rep_length]; decide)
  | d + 1, i, h => by
    refine Ev.step (fun k => ?_) (known_l1 d (i + 1) (by omega))
    simp only [cubitlaw7_RowsKnown.l1]
    rw [if_pos (by omega), if_pos (by rw [ofL_size, rep_length]; simp; omega), wrap_nat (by omega), show (⟨#[97, 10]⟩ : ByteArray) = ofL [97, 10] from rfl, ofL_append]
    rfl
theorem known_l0 : ∀ (d i : Nat), i + d = 25 → Ev (fun k => cubitlaw7_RowsKnown.l0 k (rsA.map t31) 0 2 2 2 2 (ofL (rep [97, 32] i)) (i : Int)) true
  | 0, i, h => by
    obtain rfl : i = 25 := by omega
    have hp := parse_ev (rep [97, 32] 25)
    rw [parse_wide] at hp
    apply Ev.step (f := fun k => (rows_Parse.f k (ofL (rep [97, 32] 25))).bind fun bt210 => (cubitlaw7_RowsKnown.l1 k (rsA.map t31) 0 2 2 2 2 bt210.2.1 bt210.2.2 (⟨#[]⟩ : ByteArray) 0))
    · intro k
      simp only [cubitlaw7_RowsKnown.l0]
      rw [if_neg (by decide)]
    · refine Ev.bind hp ?_
      exact known_l1 2001 0 (by omega)
  | d + 1, i, h => by
    refine Ev.step (fun k => ?_) (known_l0 d (i + 1) (by omega))
    simp only [cubitlaw7_RowsKnown.l0]
    rw [if_pos (by omega), if_pos (by rw [ofL_size, rep_length]; simp; omega), wrap_nat (by omega), show (⟨#[97, 32]⟩ : ByteArray) = ofL [97, 32] from rfl, ofL_append]
    rfl
theorem RowsKnown_ev : Ev (fun k => cubitlaw7_RowsKnown.f k) true := by
  unfold cubitlaw7_RowsKnown.f
  refine Ev.bind awake_ev ?_
  simp only [if_true]
  have pa := parse_ev [10, 32, 32, 120, 32, 32, 121, 35, 122, 32, 35, 113, 10, 35, 10, 10, 122, 10]
  have pb := parse_ev [97, 10, 98, 9, 99]
  have pc := parse_ev [97, 10, 35, 32, 128]
  rw [known_a] at pa
  rw [known_b] at pb
  rw [known_c] at pc
  refine Ev.bind pa (Ev.bind pb (Ev.bind pc ?_))
  exact known_l0 25 0 (by omega)
end Go.Proofs.YthefdpioaapomaaDoor.Pu7
