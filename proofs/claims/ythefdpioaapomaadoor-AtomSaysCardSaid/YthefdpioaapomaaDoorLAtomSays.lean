/- The statement AtomSays holds, in plain words: its walked text comes to true at every input. No memory in sight. -/
import Derived.Test.YthefdpioaapomaaDoorRv9
import Derived.Test.YthefdpioaapomaaDoorPC8
namespace Go.Proofs.YthefdpioaapomaaDoor.Pu9
set_option linter.unusedVariables false
set_option linter.unusedSimpArgs false
open Go.RowKit Go.Proofs.YthefdpioaapomaaDoorW.PrintWords Go.Proofs.YthefdpioaapomaaDoorW.PrintLast Go.Proofs.YthefdpioaapomaaDoor.Ext Go.Proofs.YthefdpioaapomaaDoorW.PrintMore Go.Proofs.YthefdpioaapomaaDoor.PC Go.Proofs.YthefdpioaapomaaDoor.Pl

theorem says_j0 (names prefs ls : List Bs) (a b : A3) (h1 : names.length ≤ 20) (h2 : prefs.length ≤ 20) (h3 : ls.length ≤ 12) (hn : ∀ s ∈ names, s.length ≤ maxLen) (hp : ∀ s ∈ prefs, s.length ≤ maxLen)
    (ha : a.p.size + a.n.size ≤ 1000000000000000) :
    Ev (fun k => cubitlaw9_AtomSays.j0 k (ls.map ofL) false (names.map ofL) (prefs.map ofL) a.p a.n a.w b.p b.n b.w) true := by
  have e1 := parse_ev names prefs ls (by omega)
  have e2 := refParse_f names prefs ls (by omega) (by omega) (by omega)
  have e3 := Good_f names prefs hn hp
  have e4 := GoodKnown_ev names prefs (fun s hs => by have := hn s hs; unfold maxLen at this; omega) (fun s hs => by have := hp s hs; unfold maxLen at this; omega) (by omega) (by omega)
  have e5 := show_ev a.p.data.toList a.n.data.toList a.w (by rw [← Lib.size_eq, ← Lib.size_eq]; exact ha)
  have e6 := refShow_ev a.p.data.toList a.n.data.toList a.w (by rw [← Lib.size_eq, ← Lib.size_eq]; exact ha)
  rw [data_ofL, data_ofL] at e5 e6
  have e7 := less_ev a b
  have e8 := refLess_f a b
  generalize r5 (parseA names prefs ls) = z at e1 e2
  apply Ev.step (f := fun k => (atom_Parse.f k (names.map ofL) (prefs.map ofL) (ls.map ofL)).bind fun x => (some z).bind fun y => (if (x.1.toList == y.1.toList && (x.2.1.toList == y.2.1.toList && (x.2.2.1 == y.2.2.1))) = true then (if x.2.2.2.1 = y.2.2.2.1 then (if (x.2.2.2.2 == y.2.2.2.2) = true then
      ((cubitref6_GoodKnown.f k (names.map ofL) (prefs.map ofL)).bind fun t249 => (if ((rowB names [] && rowB prefs []) == t249) = true then ((atom_Show.f k a.p a.n a.w).bind fun t250 => ((cubitref6_ShowAtom.f k a.p a.n a.w).bind fun t254 => (if t250.toList = t254.toList then ((atom_Less.f k a.p a.n a.w b.p b.n b.w).bind fun t255 => (if (t255 == decide (lessC a b < 0)) = true then (some true) else (some false))) else (some false)))) else (some false))) else (some false)) else (some false)) else (some false)))
  · intro k
    simp only [cubitlaw9_AtomSays.j0, cubitlaw9_knownOf.f, cubitlaw9_atomOf.f, e2, Option.bind_some, e3, e8]
    rw [if_neg (by decide)]
  · refine Ev.bind e1 ?_
    simp only [Option.bind_some, beq_self_eq_true, Bool.and_self, if_true]
    refine Ev.bind e4 ?_
    simp only [beq_self_eq_true, if_true]
    refine Ev.bind e5 (Ev.bind e6 ?_)
    simp only [if_true]
    refine Ev.bind e7 ?_
    simp only [beq_self_eq_true, if_true]
    exact Ev.now true
theorem AtomSays_ev (names prefs ls : List Bs) (a b : A3) (hn : ∀ s ∈ names, s.length ≤ maxLen) (hp : ∀ s ∈ prefs, s.length ≤ maxLen) (ha : a.p.size + a.n.size ≤ 1000000000000000) :
    Ev (fun k => cubitlaw9_AtomSays.f k (names.map ofL) (prefs.map ofL) (ls.map ofL) a.p a.n a.w b.p b.n b.w) true := by
  unfold cubitlaw9_AtomSays.f
  refine Ev.bind awake_ev ?_
  simp only [if_true]
  have big : Ev (fun k => cubitlaw9_AtomSays.j0 k (ls.map ofL) true (names.map ofL) (prefs.map ofL) a.p a.n a.w b.p b.n b.w) true := by
    refine Ev.step (f := fun _ => some true) (fun k => ?_) (Ev.now true)
    simp only [cubitlaw9_AtomSays.j0]
    rw [if_pos trivial]
  by_cases h1 : names.length ≤ 20
  · by_cases h2 : prefs.length ≤ 20
    · by_cases h3 : ls.length ≤ 12
      · refine Ev.congr (fun k => ?_) (says_j0 names prefs ls a b h1 h2 h3 hn hp ha)
        rw [if_neg (by rw [List.length_map]; omega), if_neg (by rw [List.length_map]; omega), decide_eq_false (by rw [List.length_map]; omega)]
      · refine Ev.congr (fun k => ?_) big
        rw [if_neg (by rw [List.length_map]; omega), if_neg (by rw [List.length_map]; omega), decide_eq_true (by rw [List.length_map]; omega)]
    · refine Ev.congr (fun k => ?_) big
      rw [if_neg (by rw [List.length_map]; omega), if_pos (by rw [List.length_map]; omega)]
  · refine Ev.congr (fun k => ?_) big
    rw [if_pos (by rw [List.length_map]; omega)]
end Go.Proofs.YthefdpioaapomaaDoor.Pu9
