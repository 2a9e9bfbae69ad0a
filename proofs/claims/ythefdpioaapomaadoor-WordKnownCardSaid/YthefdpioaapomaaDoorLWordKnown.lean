/- The statement WordKnown holds, in plain words: its walked text comes to true. No memory in sight. -/
import Derived.Test.YthefdpioaapomaaDoorPu6
import Derived.Test.YthefdpioaapomaaDoorPA11
namespace Go.Proofs.YthefdpioaapomaaDoor.Pu6
set_option linter.unusedVariables false
set_option linter.unusedSimpArgs false
open Go.RowKit Go.Proofs.YthefdpioaapomaaDoorW.PrintWords Go.Proofs.YthefdpioaapomaaDoorW.PrintLast Go.Proofs.YthefdpioaapomaaDoor.Ext Go.Proofs.YthefdpioaapomaaDoorW.PrintMore Go.Proofs.YthefdpioaapomaaDoor.PA Go.Proofs.YthefdpioaapomaaDoor.Pl

def known8 : List Bs := [[], [45], [97, 45], [45, 97], [97, 45, 45, 98], [65], [97, 95, 98], [97, 98, 99, 100, 101, 102, 103, 104, 105, 106, 107, 108, 109, 110, 111, 112, 113, 114, 115, 116, 117]]
theorem known8_bad : ∀ w ∈ known8, (splitW w).2 = 2 := by decide
def knownCut : List (List Bs) := [[[97]], [], [[98]]]
theorem knownCut_eq : cutW [97, 110, 100] [[97], [97, 110, 100], [97, 110, 100], [98]] = knownCut := by rfl
theorem cut_none : cutW [120] [] = [[]] := by rfl
set_option maxRecDepth 100000 in
theorem known_l1 : ∀ (d : Nat) (s : Bs), 257 ≤ s.length + 2 * d → s.length ≤ 1000 → Ev (fun k => cubitlaw6_WordKnown.l1 k (ofL s)) true
  | d, s, hd, hs => by
    by_cases h : s.length < 257
    · cases d with
      | zero => omega
      | succ d =>
        refine Ev.step (fun k => ?_) (known_l1 d (s ++ [45, 97]) (by simp; omega) (by simp; omega))
        simp only [cubitlaw6_WordKnown.l1]
        rw [if_pos (by rw [ofL_size]; omega), if_pos (by rw [ofL_size]; omega), show (⟨#[45, 97]⟩ : ByteArray) = ofL [45, 97] from rfl, ofL_append]
    · have sp := split_ev s
      have e1 : splitW s = ([], 11) := by unfold splitW; rw [if_pos (by omega)]
      rw [e1] at sp
      have ct := cut_ev [97, 110, 100] [[97], [97, 110, 100], [97, 110, 100], [98]] (by decide)
      rw [knownCut_eq] at ct
      have c0 := cut_ev [120] [] (by decide)
      rw [cut_none] at c0
      have t1 := texts_ev ([[97]].map ofL) (by decide)
      have t2 := texts_ev ([[98]].map ofL) (by decide)
      have n1 : word_Number.f (⟨#[48]⟩ : ByteArray) = some false := number_f [48]
      have n2 : word_Number.f (⟨#[48, 49]⟩ : ByteArray) = some false := number_f [48, 49]
      have n3 : word_Number.f (⟨#[]⟩ : ByteArray) = some false := number_f []
      have n4 : word_Number.f (⟨#[49, 50, 51, 52, 53, 54, 55, 56, 57, 48, 49, 50, 51, 52, 53, 54, 55, 56, 57, 48, 49]⟩ : ByteArray) = some false := number_f [49, 50, 51, 52, 53, 54, 55, 56, 57, 48, 49, 50, 51, 52, 53, 54, 55, 56, 57, 48, 49]
      have n5 : word_Number.f (⟨#[49, 50, 51, 52, 53, 54, 55, 56, 57, 48, 49, 50, 51, 52, 53, 54, 55, 56, 57, 48]⟩ : ByteArray) = some true := number_f [49, 50, 51, 52, 53, 54, 55, 56, 57, 48, 49, 50, 51, 52, 53, 54, 55, 56, 57, 48]
      have g1 : word_Good.f (⟨#[97, 98, 99, 100, 101, 102, 103, 104, 105, 106, 107, 108, 109, 110, 111, 112, 113, 114, 115, 116, 117]⟩ : ByteArray) = some false := good_f [97, 98, 99, 100, 101, 102, 103, 104, 105, 106, 107, 108, 109, 110, 111, 112, 113, 114, 115, 116, 117]
      have j0 : word_Join.f ([] : List ByteArray) = some (ofL []) := join_f [] (by decide) (by decide)
      apply Ev.step (f := fun k => (word_Split.f k (ofL s)).bind fun bt318 => ((word_Cut.f k ([[97], [97, 110, 100], [97, 110, 100], [98]].map ofL) (ofL [97, 110, 100])).bind fun t325 => (if bt318.2 = 11 then (if (t325.length : Int) = 3 then (if 0 < (t325.length : Int) then ((cubitlaw6_texts.f k (rd_L2 t325 0) ([[97]].map ofL)).bind fun t332 => (if t332 = true then (if 1 < (t325.length : Int) then (if ((rd_L2 t325 1).length : Int) = 0 then (if 2 < (t325.length : Int) then ((cubitlaw6_texts.f k (rd_L2 t325 2) ([[98]].map ofL)).bind fun t338 => (if t338 = true then ((word_Cut.f k (([] : List Bs).map ofL) (ofL [120])).bind fun t339 => (if (t339.length : Int) = 1 then some true else some false)) else (some false))) else (none)) else (some false)) else (none)) else (some false))) else (none)) else (some false)) else (some false))))
      · intro k
        simp only [cubitlaw6_WordKnown.l1]
        rw [if_neg (by rw [ofL_size]; omega)]
        simp only [n1, n2, n3, n4, n5, g1, j0, Option.bind_some, Bool.false_eq_true, if_false, if_true, ofL_toList]
        rfl
      · refine Ev.bind sp (Ev.bind ct ?_)
        show Ev (fun k => (cubitlaw6_texts.f k ([[97]].map ofL) ([[97]].map ofL)).bind fun t332 => (if t332 = true then ((cubitlaw6_texts.f k ([[98]].map ofL) ([[98]].map ofL)).bind fun t338 => (if t338 = true then ((word_Cut.f k (([] : List Bs).map ofL) (ofL [120])).bind fun t339 => (if (t339.length : Int) = 1 then some true else some false)) else (some false))) else (some false))) true
        refine Ev.bind t1 ?_
        simp only [if_true]
        refine Ev.bind t2 ?_
        simp only [if_true]
        refine Ev.bind c0 ?_
        exact Ev.now true
theorem known_l0 : ∀ (d i : Nat), i + d = known8.length → Ev (fun k => cubitlaw6_WordKnown.l0 k (known8.map ofL) (i : Int)) true
  | 0, i, hd => by
    refine Ev.step (fun k => ?_) (known_l1 128 [97] (by decide) (by decide))
    simp only [cubitlaw6_WordKnown.l0]
    rw [if_neg (by rw [List.length_map]; omega)]
    rfl
  | d + 1, i, hd => by
    have hi : i < known8.length := by omega
    have h8 : known8.length = 8 := rfl
    have sp := split_ev known8[i]
    have e := known8_bad known8[i] (List.getElem_mem hi)
    apply Ev.step (f := fun k => (word_Split.f k (ofL known8[i])).bind fun bt314 => (if bt314.2 = 2 then (cubitlaw6_WordKnown.l0 k (known8.map ofL) ((i + 1 : Nat) : Int)) else (some false)))
    · intro k
      simp only [cubitlaw6_WordKnown.l0]
      rw [if_pos (by rw [List.length_map]; omega), if_pos (by omega), rd_map known8 hi, wrap_nat (by omega)]
    · refine Ev.bind sp ?_
      refine Ev.congr (fun k => ?_) (known_l0 d (i + 1) (by omega))
      exact if_pos e
theorem WordKnown_ev : Ev (fun k => cubitlaw6_WordKnown.f k) true := by
  unfold cubitlaw6_WordKnown.f
  refine Ev.bind awake_ev ?_
  simp only [if_true]
  exact known_l0 8 0 rfl
end Go.Proofs.YthefdpioaapomaaDoor.Pu6
