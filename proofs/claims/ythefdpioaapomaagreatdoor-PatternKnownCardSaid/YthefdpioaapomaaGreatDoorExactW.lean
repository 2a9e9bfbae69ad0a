/- (*pattern.Words).Exact, walked by hand. -/
import Derived.Test.YthefdpioaapomaaGreatDoorWordK
import Derived.Deep.QuietTactic
import Derived.BigQuiet
import Derived.WalkSpells
import Derived.WalkLawsBesides
namespace Go.Proofs.YthefdpioaapomaaGreatDoor.Ext
set_option linter.unusedVariables false
set_option linter.unusedSimpArgs false
open Go.RowKit Go.Proofs.YthefdpioaapomaaGreatDoorW.PrintWords Go.Proofs.YthefdpioaapomaaGreatDoorW.PrintLast Go.Proofs.YthefdpioaapomaaGreatDoorW.PrintMore Go.Maps Go.WideMaps

def exactW (ks : List (K6 × ByteArray)) (k : K6) : ByteArray × Bool := ((getK ks k).getD ⟨#[]⟩, (getK ks k).isSome)
set_option maxHeartbeats 2000000 in
set_option maxRecDepth 100000 in
theorem exact_any (B M Q n : Nat) (ks : List (K6 × ByteArray)) (ps : List (ByteArray × ByteArray)) (k : K6) (w : World) (hL : WordsAt w B M Q n ks ps) (hk : SmallK k) :
    Calls Tryz.prog 10 #[.pointer (some ⟨B, 0, none⟩), .agg #[.string k.kind, .string k.lang, .string k.width, .string k.name, .string k.cat, .string k.case_]] w fun e w' => e = .returned (.tuple #[.string (exactW ks k).1, .bool (exactW ks k).2]) ∧ Below w.heap.size w w' := by
  have HL := Aside0.mk hL
  have HK := Aside0.mk hk
  clear hL hk
  obtain ⟨r, hr⟩ : ∃ r, r = exactW ks k := ⟨_, rfl⟩
  have hx : ∀ m, (Instr.lookup 48 (.map (some M)) (.agg #[.string k.kind, .string k.lang, .string k.width, .string k.name, .string k.cat, .string k.case_]) true).run Tryz.prog ((w.alloc (.cells #[.string k.kind, .string k.lang, .string k.width, .string k.name, .string k.cat, .string k.case_] 32)).drewN m) = .ok (.tuple #[.string r.1, .bool r.2]) ((w.alloc (.cells #[.string k.kind, .string k.lang, .string k.width, .string k.name, .string k.cat, .string k.case_] 32)).drewN m) := by
    intro m
    rw [hr]
    exact HL.out.exact HK.out (pw_below_drewN (below_alloc (Below.refl _ _) _) m)
  have hm := pw_cell_below (below_alloc (Below.refl w.heap.size w) (.cells #[.string k.kind, .string k.lang, .string k.width, .string k.name, .string k.cat, .string k.case_] 32)) (blk_cell HL.out.blk 0)
  rw [← hr]
  clear hr
  obtain ⟨k0, k1, k2, k3, k4, k5⟩ := k
  obtain ⟨r0, r1⟩ := r
  dsimp only at hx hm ⊢
  go_enter Tryz.func10, Tryz.ntmps10
  go_wp2_with fail
  go_quiet (fail)
  go_wp2_with fail
  go_ret2
  exact ⟨rfl, pw_below_drewN (below_alloc (Below.refl _ _) _) _⟩
end Go.Proofs.YthefdpioaapomaaGreatDoor.Ext
