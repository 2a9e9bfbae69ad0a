/- pattern.Words: its two maps, read as lists of keys and texts, of languages and their parents; a look-up, a store. -/
import Derived.Test.YthefdpioaapomaaGreatDoorMapK
namespace Go.Proofs.YthefdpioaapomaaGreatDoor.Ext
set_option linter.unusedVariables false
set_option linter.unusedSimpArgs false
open Go.RowKit Go.Proofs.YthefdpioaapomaaGreatDoorW.PrintWords Go.Proofs.YthefdpioaapomaaGreatDoorW.PrintLast Go.Maps Go.WideMaps

theorem laidOutW : laidOutB Tryz.prog = true := by kernel_rfl
/-- A key. -/
structure K6 where
  kind : ByteArray
  lang : ByteArray
  width : ByteArray
  name : ByteArray
  cat : ByteArray
  case_ : ByteArray
instance : DecidableEq K6 := fun a b =>
  if h : a.kind = b.kind ∧ a.lang = b.lang ∧ a.width = b.width ∧ a.name = b.name ∧ a.cat = b.cat ∧ a.case_ = b.case_ then isTrue (by cases a; cases b; simp at h; simp [h])
  else isFalse (by rintro rfl; exact h ⟨rfl, rfl, rfl, rfl, rfl, rfl⟩)
def encW (k : K6) : Value := .agg #[.string k.kind, .string k.lang, .string k.width, .string k.name, .string k.cat, .string k.case_]
theorem encW_inj (a b : K6) (h : encW a = encW b) : a = b := by
  unfold encW at h
  injection h with h
  have h2 := congrArg Array.toList h
  cases a
  cases b
  simp at h2
  simp [h2]
theorem keyedW : Keyed Tryz.prog 32 := Keyed.of_law (deep_law_laid laidOutW (m := 2) (by decide) (of_decide_eq_true (by kernel_rfl)) (by kernel_rfl) (by kernel_rfl))
/-- Strings that a map's key may hold. -/
def SmallK (k : K6) : Prop := k.kind.size ≤ maxLen ∧ k.lang.size ≤ maxLen ∧ k.width.size ≤ maxLen ∧ k.name.size ≤ maxLen ∧ k.cat.size ≤ maxLen ∧ k.case_.size ≤ maxLen
set_option maxRecDepth 100000 in
theorem okKeyW {k : K6} (h : SmallK k) : okKey Tryz.prog 32 (encW k) := by
  obtain ⟨a, b, c, d, e, f⟩ := k
  obtain ⟨ha, hb, hc6, hd, he, hff⟩ := h
  unfold okKey keyOf encW
  rw [Tryz.underlying32]
  have hk : Tryz.prog.keyType 32 = true := by kernel_rfl
  have hf : (Value.agg #[.string a, .string b, .string c, .string d, .string e, .string f]).formed Tryz.prog 32 = true := by
    unfold Value.formed
    rw [Tryz.underlying32]
    have hc : Tryz.prog.cellsOf 32 = 6 := by kernel_rfl
    simp [hc]
  simp only [hk, hf, Bool.and_self, if_true, Option.isSome_map]
  unfold Program.keyLits
  have hc : Tryz.prog.cellsOf 32 = 6 := by kernel_rfl
  have hc9 : Tryz.prog.cellsOf 9 = 1 := by kernel_rfl
  have hs : ∀ (m : Nat) (s : ByteArray), s.size ≤ maxLen → Tryz.prog.keyLits (m + 1) 9 [.string s] = some [.string s.data.toList] := by
    intro m s h
    unfold Program.keyLits
    rw [Tryz.underlying9]
    simp [h]
  rw [Tryz.underlying32]
  obtain ⟨m, hm⟩ : ∃ m, Tryz.prog.types.size = m + 1 := ⟨Tryz.prog.types.size - 1, by have : 0 < Tryz.prog.types.size := of_decide_eq_true (by kernel_rfl); omega⟩
  simp [Value.cells, hc, hc9, hm, hs m a ha, hs m b hb, hs m c hc6, hs m d hd, hs m e he, hs m f hff]
def encS (s : ByteArray) : Value := .string s
theorem encS_inj (a b : ByteArray) (h : encS a = encS b) : a = b := by unfold encS at h; injection h
theorem keyedS : Keyed Tryz.prog 9 := string_keyed Tryz.underlying9
theorem okKeyS {s : ByteArray} (h : s.size ≤ maxLen) : okKey Tryz.prog 9 (encS s) := by
  unfold okKey encS
  rw [keyOf_string_mk Tryz.underlying9 h]
  rfl
/-! The lists -/
def getK : List (K6 × ByteArray) → K6 → Option ByteArray
  | [], _ => none
  | e :: es, k => if e.1 = k then some e.2 else getK es k
def getS : List (ByteArray × ByteArray) → ByteArray → Option ByteArray
  | [], _ => none
  | e :: es, k => if e.1 = k then some e.2 else getS es k
def valW {α : Type} (es : List (α × ByteArray)) : List (α × Value) := es.map fun e => (e.1, Value.string e.2)
theorem getM_K (k : K6) : ∀ es : List (K6 × ByteArray), getM (valW es) k = (getK es k).map Value.string
  | [] => rfl
  | e :: es => by
    show getM ((e.1, Value.string e.2) :: valW es) k = _
    rw [getM, getK]
    by_cases h : e.1 = k
    · rw [if_pos h, if_pos h]
      rfl
    · rw [if_neg h, if_neg h, getM_K k es]
theorem getM_S (k : ByteArray) : ∀ es : List (ByteArray × ByteArray), getM (valW es) k = (getS es k).map Value.string
  | [] => rfl
  | e :: es => by
    show getM ((e.1, Value.string e.2) :: valW es) k = _
    rw [getM, getS]
    by_cases h : e.1 = k
    · rw [if_pos h, if_pos h]
      rfl
    · rw [if_neg h, if_neg h, getM_S k es]
/-- The pointer's block B holds the maps M and Q: these texts, these parents. -/
structure WordsAt (w : World) (B M Q n : Nat) (ks : List (K6 × ByteArray)) (ps : List (ByteArray × ByteArray)) : Prop where
  blk : w.heap[B]? = some (.cells #[.map (some M), .map (some Q)] 51 (0, 0))
  keys : MapAt Tryz.prog 32 encW w M n (valW ks)
  pars : MapAt Tryz.prog 9 encS w Q n (valW ps)
  ne : M ≠ Q
variable {w w' : World} {B M Q n : Nat} {ks : List (K6 × ByteArray)} {ps : List (ByteArray × ByteArray)}
theorem WordsAt.below (h : WordsAt w B M Q n ks ps) (hb : Below w.heap.size w w') : WordsAt w' B M Q n ks ps := ⟨blk_below h.blk hb, h.keys.below hb, h.pars.below hb, h.ne⟩
theorem MapAt.more {α : Type} {P : Program} {kt : TypeId} {enc : α → Value} {w : World} {M n m : Nat} {es : List (α × Value)} (h : MapAt P kt enc w M n es) (hm : n ≤ m) : MapAt P kt enc w M m es := ⟨h.own.mono hm, h.ok⟩
theorem WordsAt.mono (h : WordsAt w B M Q n ks ps) {m : Nat} (hm : n ≤ m) : WordsAt w B M Q m ks ps := ⟨h.blk, h.keys.more hm, h.pars.more hm, h.ne⟩
theorem WordsAt.made (w : World) : WordsAt (((w.alloc (.map #[] 0)).alloc (.map #[] 0)).alloc (.cells #[.map (some w.heap.size), .map (some (w.heap.size + 1))] 51)) (w.heap.size + 2) w.heap.size (w.heap.size + 1) 0 [] [] := by
  refine ⟨?_, (MapAt.made w).below (below_alloc (below_alloc (Below.refl _ _) _) _), ?_, by omega⟩
  · have h := blk_new ((w.alloc (.map #[] 0)).alloc (.map #[] 0)) (.cells #[.map (some w.heap.size), .map (some (w.heap.size + 1))] 51)
    rwa [show ((w.alloc (.map #[] 0)).alloc (.map #[] 0)).heap.size = w.heap.size + 1 + 1 from by simp] at h
  · have h := (MapAt.made (P := Tryz.prog) (kt := 9) (enc := encS) (w.alloc (.map #[] 0))).below (below_alloc (Below.refl _ _) (.cells #[.map (some w.heap.size), .map (some (w.heap.size + 1))] 51))
    rwa [show (w.alloc (.map #[] 0)).heap.size = w.heap.size + 1 from by simp] at h
set_option maxRecDepth 100000 in
/-- What look-ups answer. -/
theorem WordsAt.exact (h : WordsAt w B M Q n ks ps) {k : K6} (hk : SmallK k) {W : World} (hb : Below w.heap.size w W) :
    (Instr.lookup 48 (.map (some M)) (.agg #[.string k.kind, .string k.lang, .string k.width, .string k.name, .string k.cat, .string k.case_]) true).run Tryz.prog W = .ok (.tuple #[.string ((getK ks k).getD ⟨#[]⟩), .bool (getK ks k).isSome]) W := by
  have hr := (h.keys.below hb).lookOk keyedW encW_inj Tryz.underlying48 (z := .string ⟨#[]⟩) (by kernel_rfl) (okKeyW hk)
  rw [getM_K] at hr
  have e : (Instr.lookup 48 (.map (some M)) (encW k) true).run Tryz.prog W = .ok (.tuple #[((getK ks k).map Value.string).getD (.string ⟨#[]⟩), .bool ((getK ks k).map Value.string).isSome]) W := hr
  cases hg : getK ks k with
  | none => rw [hg] at e; exact e
  | some x => rw [hg] at e; exact e
set_option maxRecDepth 100000 in
theorem WordsAt.parent (h : WordsAt w B M Q n ks ps) {s : ByteArray} (hk : s.size ≤ maxLen) {W : World} (hb : Below w.heap.size w W) :
    (Instr.lookup 49 (.map (some Q)) (.string s) true).run Tryz.prog W = .ok (.tuple #[.string ((getS ps s).getD ⟨#[]⟩), .bool (getS ps s).isSome]) W := by
  have hr := (h.pars.below hb).lookOk keyedS encS_inj Tryz.underlying49 (z := .string ⟨#[]⟩) (by kernel_rfl) (okKeyS hk)
  rw [getM_S] at hr
  cases hg : getS ps s with
  | none => rw [hg] at hr; exact hr
  | some x => rw [hg] at hr; exact hr
set_option maxRecDepth 100000 in
theorem WordsAt.parent1 (h : WordsAt w B M Q n ks ps) {s : ByteArray} (hk : s.size ≤ maxLen) {W : World} (hb : Below w.heap.size w W) :
    (Instr.lookup 49 (.map (some Q)) (.string s) false).run Tryz.prog W = .ok (.string ((getS ps s).getD ⟨#[]⟩)) W := by
  have hr := (h.pars.below hb).look keyedS encS_inj Tryz.underlying49 (z := .string ⟨#[]⟩) (by kernel_rfl) (okKeyS hk)
  rw [getM_S] at hr
  cases hg : getS ps s with
  | none => rw [hg] at hr; exact hr
  | some x => rw [hg] at hr; exact hr
set_option maxRecDepth 100000 in
/-- Stores. -/
theorem WordsAt.putK (h : WordsAt w B M Q n ks ps) (hn : n < maxLen) {k : K6} (hk : SmallK k) (t : ByteArray) :
    ∃ w', (Instr.mapUpdate 48 (.map (some M)) (.agg #[.string k.kind, .string k.lang, .string k.width, .string k.name, .string k.cat, .string k.case_]) (.string t)).run Tryz.prog w = .ok () w' ∧ WordsAt w' B M Q (n + 1) ((k, t) :: ks) ps ∧ w.grownBy w' (some M) := by
  obtain ⟨x, c, hM⟩ := h.keys.blk
  obtain ⟨w', hrun, hmap, hg⟩ := h.keys.put keyedW Tryz.underlying48 hn (okKeyW hk) (.string t)
  refine ⟨w', hrun, ⟨?_, hmap, (h.pars.kept hg (fun e => h.ne (by injection e with e; exact e.symm))).more (Nat.le_succ _), h.ne⟩, hg⟩
  exact blk_grown h.blk hg (fun e => by injection e with e; subst e; have h1 := h.blk; rw [hM] at h1; cases h1)
set_option maxRecDepth 100000 in
theorem WordsAt.putS (h : WordsAt w B M Q n ks ps) (hn : n < maxLen) {s : ByteArray} (hk : s.size ≤ maxLen) (t : ByteArray) :
    ∃ w', (Instr.mapUpdate 49 (.map (some Q)) (.string s) (.string t)).run Tryz.prog w = .ok () w' ∧ WordsAt w' B M Q (n + 1) ks ((s, t) :: ps) ∧ w.grownBy w' (some Q) := by
  obtain ⟨x, c, hM⟩ := h.pars.blk
  obtain ⟨w', hrun, hmap, hg⟩ := h.pars.put keyedS Tryz.underlying49 hn (okKeyS hk) (.string t)
  refine ⟨w', hrun, ⟨?_, (h.keys.kept hg (fun e => h.ne (by injection e))).more (Nat.le_succ _), hmap, h.ne⟩, hg⟩
  exact blk_grown h.blk hg (fun e => by injection e with e; subst e; have h1 := h.blk; rw [hM] at h1; cases h1)
end Go.Proofs.YthefdpioaapomaaGreatDoor.Ext
