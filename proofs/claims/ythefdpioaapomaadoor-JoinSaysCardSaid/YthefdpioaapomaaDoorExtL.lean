/- join.Lists: the map that Load makes, read as a list of languages, widths and texts; a look-up, a store. -/
import Derived.Test.YthefdpioaapomaaDoorMapK
namespace Go.Proofs.YthefdpioaapomaaDoor.Ext
set_option linter.unusedVariables false
set_option linter.unusedSimpArgs false
open Go.RowKit Go.Proofs.YthefdpioaapomaaDoorW.PrintWords Go.Proofs.YthefdpioaapomaaDoorW.PrintLast Go.Maps Go.WideMaps

theorem laidOutL : laidOutB Tryd.prog = true := by kernel_rfl
abbrev LKey := ByteArray × ByteArray
def encL (k : LKey) : Value := .agg #[.string k.1, .string k.2]
theorem encL_inj (a b : LKey) (h : encL a = encL b) : a = b := by
  unfold encL at h
  injection h with h
  have h2 := congrArg Array.toList h
  simp at h2
  exact Prod.ext h2.1 h2.2
theorem keyedL : Keyed Tryd.prog 117 := Keyed.of_law (deep_law_laid laidOutL (m := 2) (by decide) (of_decide_eq_true (by kernel_rfl)) (by kernel_rfl) (by kernel_rfl))
set_option maxRecDepth 100000 in
theorem okKeyL {a b : ByteArray} (ha : a.size ≤ maxLen) (hb : b.size ≤ maxLen) : okKey Tryd.prog 117 (encL (a, b)) := by
  unfold okKey keyOf encL
  rw [Tryd.underlying117]
  have hk : Tryd.prog.keyType 117 = true := by kernel_rfl
  have hf : (Value.agg #[.string a, .string b]).formed Tryd.prog 117 = true := by
    unfold Value.formed
    rw [Tryd.underlying117]
    have hc : Tryd.prog.cellsOf 117 = 2 := by kernel_rfl
    simp [hc]
  simp only [hk, hf, Bool.and_self, if_true, Option.isSome_map]
  unfold Program.keyLits
  have hc : Tryd.prog.cellsOf 117 = 2 := by kernel_rfl
  have hc9 : Tryd.prog.cellsOf 9 = 1 := by kernel_rfl
  have hs : ∀ (m : Nat) (s : ByteArray), s.size ≤ maxLen → Tryd.prog.keyLits (m + 1) 9 [.string s] = some [.string s.data.toList] := by
    intro m s h
    unfold Program.keyLits
    rw [Tryd.underlying9]
    simp [h]
  rw [Tryd.underlying117]
  obtain ⟨m, hm⟩ : ∃ m, Tryd.prog.types.size = m + 1 := ⟨Tryd.prog.types.size - 1, by have : 0 < Tryd.prog.types.size := of_decide_eq_true (by kernel_rfl); omega⟩
  simp [Value.cells, hc, hc9, hm, hs m a ha, hs m b hb]
/-! The lists -/
def getF : List (LKey × List ByteArray) → LKey → Option (List ByteArray)
  | [], _ => none
  | f :: fs, k => if f.1 = k then some f.2 else getF fs k
/-- An entry's texts: a slice that is not nil and reads so. -/
def TextsAt (w : World) (v : Value) (xs : List ByteArray) : Prop := ∃ a c, v = .slice (some a) xs.length c ∧ xs.length ≤ c ∧ Kd.C Kd.string w (some a) xs.length xs
def RowsL (w : World) : List (LKey × Value) → List (LKey × List ByteArray) → Prop
  | [], [] => True
  | e :: es, f :: fs => e.1 = f.1 ∧ TextsAt w e.2 f.2 ∧ RowsL w es fs
  | _, _ => False
theorem RowsL.imp {w w' : World} (h : ∀ v xs, TextsAt w v xs → TextsAt w' v xs) : ∀ {es fs}, RowsL w es fs → RowsL w' es fs
  | [], [], _ => trivial
  | e :: es, f :: fs, ⟨h1, h2, h3⟩ => ⟨h1, h _ _ h2, RowsL.imp h h3⟩
  | [], _ :: _, h => h.elim
  | _ :: _, [], h => h.elim
theorem RowsL.get {w : World} (k : LKey) : ∀ {es fs}, RowsL w es fs → (getM es k = none ∧ getF fs k = none) ∨ ∃ v xs, getM es k = some v ∧ getF fs k = some xs ∧ TextsAt w v xs
  | [], [], _ => .inl ⟨rfl, rfl⟩
  | e :: es, f :: fs, ⟨h1, h2, h3⟩ => by
    unfold getM getF
    by_cases hk : e.1 = k
    · rw [if_pos hk, if_pos (h1 ▸ hk)]
      exact .inr ⟨_, _, rfl, rfl, h2⟩
    · rw [if_neg hk, if_neg (h1 ▸ hk)]
      exact RowsL.get k h3
  | [], _ :: _, h => h.elim
  | _ :: _, [], h => h.elim
theorem TextsAt.below {w w' : World} {v : Value} {xs : List ByteArray} (h : TextsAt w v xs) (hb : Below w.heap.size w w') : TextsAt w' v xs := by
  obtain ⟨a, c, e, hc, hC⟩ := h
  exact ⟨a, c, e, hc, Kd.C_below hC hb⟩
/-- The pointer's block B holds the map M; M holds these lists. -/
structure ListsAt (w : World) (B M n : Nat) (fs : List (LKey × List ByteArray)) : Prop where
  blk : w.heap[B]? = some (.cells #[.map (some M)] 115 (0, 0))
  map : ∃ es, MapAt Tryd.prog 117 encL w M n es ∧ RowsL w es fs
theorem ListsAt.below {w w' : World} {B M n : Nat} {fs : List (LKey × List ByteArray)} (h : ListsAt w B M n fs) (hb : Below w.heap.size w w') : ListsAt w' B M n fs := by
  obtain ⟨h1, es, h2, h3⟩ := h
  exact ⟨blk_below h1 hb, es, h2.below hb, h3.imp (fun v xs ht => ht.below hb)⟩
theorem ListsAt.mono {w : World} {B M n m : Nat} {fs : List (LKey × List ByteArray)} (h : ListsAt w B M n fs) (hm : n ≤ m) : ListsAt w B M m fs := by
  obtain ⟨h1, es, h2, h3⟩ := h
  exact ⟨h1, es, ⟨h2.own.mono hm, h2.ok⟩, h3⟩
theorem ListsAt.made (w : World) : ListsAt ((w.alloc (.map #[] 0)).alloc (.cells #[.map (some w.heap.size)] 115)) (w.heap.size + 1) w.heap.size 0 [] := by
  refine ⟨?_, [], (MapAt.made w).below (below_alloc (Below.refl _ _) _), trivial⟩
  have h := blk_new (w.alloc (.map #[] 0)) (.cells #[.map (some w.heap.size)] 115)
  rwa [show (w.alloc (.map #[] 0)).heap.size = w.heap.size + 1 from by simp] at h
/-- What a look-up answers: nil where there is none. -/
theorem ListsAt.look {w : World} {B M n : Nat} {fs : List (LKey × List ByteArray)} (h : ListsAt w B M n fs) {a b : ByteArray} (ha : a.size ≤ maxLen) (hb : b.size ≤ maxLen) :
    ∃ v, (∀ w', Below w.heap.size w w' → (Instr.lookup 113 (.map (some M)) (.agg #[.string a, .string b]) false).run Tryd.prog w' = .ok v w') ∧ ((v = .slice none 0 0 ∧ getF fs (a, b) = none) ∨ ∃ xs, getF fs (a, b) = some xs ∧ TextsAt w v xs) := by
  obtain ⟨h1, es, h2, h3⟩ := h
  have run : ∀ w', Below w.heap.size w w' → (Instr.lookup 113 (.map (some M)) (encL (a, b)) false).run Tryd.prog w' = .ok ((getM es (a, b)).getD (.slice none 0 0)) w' :=
    fun w' hw => (h2.below hw).look keyedL encL_inj Tryd.underlying113 (z := .slice none 0 0) (by kernel_rfl) (okKeyL ha hb)
  rcases h3.get (a, b) with ⟨e1, e2⟩ | ⟨v, xs, e1, e2, ht⟩
  · rw [e1] at run
    exact ⟨_, run, .inl ⟨rfl, e2⟩⟩
  · rw [e1] at run
    exact ⟨_, run, .inr ⟨xs, e2, ht⟩⟩
/-- A store of texts. -/
theorem ListsAt.put {w : World} {B M n : Nat} {fs : List (LKey × List ByteArray)} (h : ListsAt w B M n fs) (hn : n < maxLen) {a b : ByteArray} (ha : a.size ≤ maxLen) (hb : b.size ≤ maxLen) {v : Value} {xs : List ByteArray} (ht : TextsAt w v xs) :
    ∃ w', (Instr.mapUpdate 113 (.map (some M)) (.agg #[.string a, .string b]) v).run Tryd.prog w = .ok () w' ∧ ListsAt w' B M (n + 1) (((a, b), xs) :: fs) ∧ w.grownBy w' (some M) := by
  obtain ⟨h1, es, h2, h3⟩ := h
  obtain ⟨x, c, hM⟩ := h2.blk
  obtain ⟨w', hrun, hmap, hg⟩ := h2.put keyedL Tryd.underlying113 hn (k := (a, b)) (okKeyL ha hb) v
  have tx : ∀ v xs, TextsAt w v xs → TextsAt w' v xs := by
    rintro v xs ⟨ad, c, e, hc, hC⟩
    exact ⟨ad, c, e, hc, C_map hC hM hg⟩
  refine ⟨w', hrun, ⟨?_, _, hmap, rfl, tx _ _ ht, h3.imp tx⟩, hg⟩
  exact blk_grown h1 hg (fun e => by injection e with e; subst e; rw [hM] at h1; cases h1)
theorem ListsAt.mblk {w : World} {B M n : Nat} {fs : List (LKey × List ByteArray)} (h : ListsAt w B M n fs) : ∃ x c, w.heap[M]? = some (.map x c) := by
  obtain ⟨_, es, h2, _⟩ := h
  exact h2.blk
end Go.Proofs.YthefdpioaapomaaDoor.Ext
