/- pattern.key, walked by hand: what a row's text is for. -/
import Derived.Test.YthefdpioaapomaaGreatDoorWordK
import Derived.Test.YthefdpioaapomaaGreatDoorExtZ
import Derived.Test.YthefdpioaapomaaGreatDoorPA1
import Derived.Test.YthefdpioaapomaaGreatDoorPA2
import Derived.Deep.QuietTactic
import Derived.BigQuiet
import Derived.WalkSpells
import Derived.WalkLawsBesides
namespace Go.Proofs.YthefdpioaapomaaGreatDoor.Ext
set_option linter.unusedVariables false
set_option linter.unusedSimpArgs false
open Go.RowKit Go.Proofs.YthefdpioaapomaaGreatDoorW.PrintWords Go.Proofs.YthefdpioaapomaaGreatDoorW.PrintLast Go.Proofs.YthefdpioaapomaaGreatDoorW.PrintMore Go.Maps Go.WideMaps Go.Proofs.YthefdpioaapomaaGreatDoor.PA

abbrev bWord : ByteArray := ⟨#[119, 111, 114, 100]⟩
abbrev bPower : ByteArray := ⟨#[112, 111, 119, 101, 114]⟩
abbrev bPrefixed : ByteArray := ⟨#[112, 114, 101, 102, 105, 120, 101, 100]⟩
abbrev bPer : ByteArray := ⟨#[112, 101, 114]⟩
abbrev bTimes : ByteArray := ⟨#[116, 105, 109, 101, 115]⟩
abbrev eS : ByteArray := ⟨#[]⟩
/-- How many words a row of a kind has. -/
def kindN (s : ByteArray) : Nat := if s = bWord then 7 else if s = bPower then 6 else if s = bPrefixed then 5 else if s = bPer ∨ s = bTimes then 4 else 0
theorem kindN_7 (k : ByteArray) : kindN k ≤ 7 := by
  unfold kindN
  by_cases h1 : k = bWord
  · rw [if_pos h1]; exact Nat.le_refl _
  rw [if_neg h1]
  by_cases h2 : k = bPower
  · rw [if_pos h2]; decide
  rw [if_neg h2]
  by_cases h3 : k = bPrefixed
  · rw [if_pos h3]; decide
  rw [if_neg h3]
  by_cases h4 : k = bPer ∨ k = bTimes
  · rw [if_pos h4]; decide
  · rw [if_neg h4]; decide
theorem kindN_4 {k : ByteArray} : kindN k ≠ 0 → 4 ≤ kindN k := by
  unfold kindN
  by_cases h1 : k = bWord
  · rw [if_pos h1]; intro _; decide
  rw [if_neg h1]
  by_cases h2 : k = bPower
  · rw [if_pos h2]; intro _; decide
  rw [if_neg h2]
  by_cases h3 : k = bPrefixed
  · rw [if_pos h3]; intro _; decide
  rw [if_neg h3]
  by_cases h4 : k = bPer ∨ k = bTimes
  · rw [if_pos h4]; intro _; decide
  · rw [if_neg h4]; intro h; exact absurd rfl h
def mapE : List (ByteArray × Value) := [(bTimes, .int .i64 4), (bPer, .int .i64 4), (bPrefixed, .int .i64 5), (bPower, .int .i64 6), (bWord, .int .i64 7)]
theorem mapE_get (s : ByteArray) : (getM mapE s).getD (.int .i64 0) = .int .i64 (kindN s : Nat) := by
  unfold mapE kindN
  simp only [getM]
  by_cases h1 : s = bWord
  · subst h1; rfl
  by_cases h2 : s = bPower
  · subst h2; rfl
  by_cases h3 : s = bPrefixed
  · subst h3; rfl
  by_cases h4 : s = bPer
  · subst h4; rfl
  by_cases h5 : s = bTimes
  · subst h5; rfl
  rw [if_neg (fun e => h5 e.symm), if_neg (fun e => h4 e.symm), if_neg (fun e => h3 e.symm), if_neg (fun e => h2 e.symm), if_neg (fun e => h1 e.symm), if_neg h1, if_neg h2, if_neg h3, if_neg (fun h => h.elim h4 h5)]
  rfl
/-- The map that key makes of five words. -/
theorem map5 (w : World) : ∃ w1 w2 w3 w4 w5 : World,
    (Instr.mapUpdate 79 (.map (some w.heap.size)) (.string bWord) (.int .i64 7)).run Tryz.prog (w.alloc (.map #[] 0)) = .ok () w1 ∧
    (Instr.mapUpdate 79 (.map (some w.heap.size)) (.string bPower) (.int .i64 6)).run Tryz.prog w1 = .ok () w2 ∧
    (Instr.mapUpdate 79 (.map (some w.heap.size)) (.string bPrefixed) (.int .i64 5)).run Tryz.prog w2 = .ok () w3 ∧
    (Instr.mapUpdate 79 (.map (some w.heap.size)) (.string bPer) (.int .i64 4)).run Tryz.prog w3 = .ok () w4 ∧
    (Instr.mapUpdate 79 (.map (some w.heap.size)) (.string bTimes) (.int .i64 4)).run Tryz.prog w4 = .ok () w5 ∧
    Below w.heap.size w w5 ∧ ∀ s : ByteArray, s.size ≤ maxLen → (Instr.lookup 79 (.map (some w.heap.size)) (.string s) false).run Tryz.prog w5 = .ok (.int .i64 (kindN s : Nat)) w5 := by
  have ht := Tryz.underlying79
  have key : ∀ s : ByteArray, s.size ≤ 100 → okKey Tryz.prog 9 (encS s) := fun s hs => okKeyS (by unfold maxLen; omega)
  have m0 : MapAt Tryz.prog 9 encS (w.alloc (.map #[] 0)) w.heap.size 0 [] := MapAt.made w
  have step : ∀ (W W' : World) (b : Below w.heap.size w W), W.grownBy W' (some w.heap.size) → Below w.heap.size w W' := fun W W' b g => b.grown g (below_size b) (fun j hj => by cases hj; exact Nat.le_refl _)
  have b0 : Below w.heap.size w (w.alloc (.map #[] 0)) := below_alloc (Below.refl _ _) _
  obtain ⟨w1, r1, m1, g1⟩ := m0.put keyedS ht (by decide) (key bWord (by decide)) (.int .i64 7)
  obtain ⟨w2, r2, m2, g2⟩ := m1.put keyedS ht (by decide) (key bPower (by decide)) (.int .i64 6)
  obtain ⟨w3, r3, m3, g3⟩ := m2.put keyedS ht (by decide) (key bPrefixed (by decide)) (.int .i64 5)
  obtain ⟨w4, r4, m4, g4⟩ := m3.put keyedS ht (by decide) (key bPer (by decide)) (.int .i64 4)
  obtain ⟨w5, r5, m5, g5⟩ := m4.put keyedS ht (by decide) (key bTimes (by decide)) (.int .i64 4)
  refine ⟨w1, w2, w3, w4, w5, r1, r2, r3, r4, r5, step _ _ (step _ _ (step _ _ (step _ _ (step _ _ b0 g1) g2) g3) g4) g5, fun s hs => ?_⟩
  have hr := m5.look keyedS encS_inj ht (z := .int .i64 0) (by kernel_rfl) (okKeyS hs)
  have e := mapE_get s
  unfold mapE at e
  rw [e] at hr
  exact hr
/-! The small readings -/
def langK (s : ByteArray) : Bool := (pattern_lang.f s).getD false
def widthK (s : ByteArray) : Bool := (pattern_width.f s).getD false
def nameK (s : ByteArray) : Bool := (pattern_name.f s).getD false
def someK (s : ByteArray) : ByteArray := (pattern_some.f s).getD eS
def blankK (s : ByteArray) : ByteArray := (rows_Blank.f s).getD s
abbrev c0 : ByteArray := ⟨#[123, 48, 125]⟩
abbrev c1 : ByteArray := ⟨#[123, 49, 125]⟩
def sgnK (s : ByteArray) : Nat × Nat := (Lib.countB (blankK s) c0, Lib.countB (blankK s) c1)
def powK (s : ByteArray) : Bool := match atoiV s with
  | some v => decide (itoaV v = s) && decide (2 ≤ v) && decide (v ≤ 15)
  | none => false
/-- What a word must be, that its readings are told. -/
structure TextOk (s : ByteArray) : Prop where
  size : s.size ≤ 100000
  lang : (pattern_lang.f s).isSome = true
  width : (pattern_width.f s).isSome = true
  name : (pattern_name.f s).isSome = true
  some_ : (pattern_some.f s).isSome = true
  blank : (rows_Blank.f s).isSome = true
  short : (blankK s).size ≤ 100000
theorem langK_any (s : ByteArray) (x : Bool) (w : World) (hG : Glob w) (hs : TextOk s) (h : langK s = x) : Calls Tryz.prog 34 #[.string s] w fun e w' => e = .returned (.bool x) ∧ Below w.heap.size w w' := by
  obtain ⟨y, hy⟩ := Option.isSome_iff_exists.1 hs.lang
  have : y = x := by rw [← h]; unfold langK; rw [hy]; rfl
  subst this
  exact pattern_lang.calls s y w hy hG
theorem widthK_any (s : ByteArray) (x : Bool) (w : World) (hG : Glob w) (hs : TextOk s) (h : widthK s = x) : Calls Tryz.prog 41 #[.string s] w fun e w' => e = .returned (.bool x) ∧ Below w.heap.size w w' := by
  obtain ⟨y, hy⟩ := Option.isSome_iff_exists.1 hs.width
  have : y = x := by rw [← h]; unfold widthK; rw [hy]; rfl
  subst this
  refine (pattern_width.calls s y w hy hG).mono ?_
  rintro e w' ⟨rfl, h⟩
  first
    | exact ⟨rfl, h⟩
    | (obtain ⟨n, rfl⟩ := h; exact ⟨rfl, pw_below_drewN (Below.refl _ _) n⟩)
theorem nameK_any (s : ByteArray) (x : Bool) (w : World) (hG : Glob w) (hs : TextOk s) (h : nameK s = x) : Calls Tryz.prog 42 #[.string s] w fun e w' => e = .returned (.bool x) ∧ Below w.heap.size w w' := by
  obtain ⟨y, hy⟩ := Option.isSome_iff_exists.1 hs.name
  have : y = x := by rw [← h]; unfold nameK; rw [hy]; rfl
  subst this
  exact pattern_name.calls s y w hy hG
theorem someK_any (s x : ByteArray) (w : World) (hG : Glob w) (hs : TextOk s) (h : someK s = x) : Calls Tryz.prog 44 #[.string s] w fun e w' => e = .returned (.string x) ∧ Below w.heap.size w w' := by
  obtain ⟨y, hy⟩ := Option.isSome_iff_exists.1 hs.some_
  have : y = x := by rw [← h]; unfold someK; rw [hy]; rfl
  subst this
  refine (pattern_some.calls s y w hy hG).mono ?_
  rintro e w' ⟨rfl, h⟩
  first
    | exact ⟨rfl, h⟩
    | (obtain ⟨n, rfl⟩ := h; exact ⟨rfl, pw_below_drewN (Below.refl _ _) n⟩)
theorem blankK_any (s x : ByteArray) (w : World) (hG : Glob w) (hs : TextOk s) (h : blankK s = x) : Calls Tryz.prog 19 #[.string s] w fun e w' => e = .returned (.string x) ∧ Below w.heap.size w w' := by
  obtain ⟨y, hy⟩ := Option.isSome_iff_exists.1 hs.blank
  have : y = x := by rw [← h]; unfold blankK; rw [hy]; rfl
  subst this
  exact rows_Blank.calls s y w hy hG
theorem signsK_any (t : ByteArray) (a b : Nat) (w : World) (hG : Glob w) (ht : t.size ≤ 100000) (ha : Lib.countB t c0 = a) (hb : Lib.countB t c1 = b) : Calls Tryz.prog 43 #[.string t] w fun e w' => e = .returned (.tuple #[.int .i64 (a : Int), .int .i64 (b : Int)]) ∧ Below w.heap.size w w' := by
  have h : pattern_signs.f t = some ((a : Int), (b : Int)) := by
    unfold pattern_signs.f strings_Count.f
    rw [if_pos (by omega), if_pos (by decide), Option.bind_some, if_pos (by omega), if_pos (by decide), Option.bind_some, ← ha, ← hb]
  refine (pattern_signs.calls t a b w h hG).mono ?_
  rintro e w' ⟨rfl, h⟩
  first
    | exact ⟨rfl, h⟩
    | (obtain ⟨n, rfl⟩ := h; exact ⟨rfl, pw_below_drewN (Below.refl _ _) n⟩)
/-- What a row's text is for. -/
def keyW : List ByteArray → Option K6
  | k :: a :: b :: l => if l.length + 3 = kindN k ∧ langK a = true ∧ widthK b = true ∧ ((l.take (kindN k - 4)).all nameK) = true then
      (if k = bWord then (if (sgnK (l.getD 3 eS)).1 ≤ 1 ∧ (sgnK (l.getD 3 eS)).2 = 0 then some ⟨k, a, b, l.getD 0 eS, l.getD 1 eS, someK (l.getD 2 eS)⟩ else none)
      else if k = bPower then (if (sgnK (l.getD 2 eS)).1 = 1 ∧ (sgnK (l.getD 2 eS)).2 = 0 ∧ powK (l.getD 0 eS) = true then some ⟨k, a, b, l.getD 0 eS, someK (l.getD 1 eS), eS⟩ else none)
      else if k = bPrefixed then (if (sgnK (l.getD 1 eS)).1 = 1 ∧ (sgnK (l.getD 1 eS)).2 = 0 then some ⟨k, a, b, l.getD 0 eS, eS, eS⟩ else none)
      else (if (sgnK (l.getD 0 eS)).1 = 1 ∧ (sgnK (l.getD 0 eS)).2 = 1 then some ⟨k, a, b, eS, eS, eS⟩ else none))
    else none
  | _ => none
theorem keyW_no {k : ByteArray} {l : List ByteArray} (h : ¬ (k :: l).length = kindN k) : keyW (k :: l) = none := by
  rcases l with _ | ⟨a, _ | ⟨b, l⟩⟩
  · rfl
  · rfl
  · rw [keyW, if_neg]
    intro q
    apply h
    rw [← q.1]
    rfl
theorem keyW_off {k a b : ByteArray} {l : List ByteArray} (h : ¬ (langK a = true ∧ widthK b = true ∧ ((l.take (kindN k - 4)).all nameK) = true)) : keyW (k :: a :: b :: l) = none := by
  rw [keyW, if_neg]
  exact fun q => h q.2
theorem below_set6 {w W : World} (h : Below w.heap.size w W) (g : Nat) (hg : w.heap.size ≤ g) (v0 v1 v2 v3 v4 v5 : Value) : Below w.heap.size w ((((((W.setCell ⟨g, 0, none⟩ v0).setCell ⟨g, 1, none⟩ v1).setCell ⟨g, 2, none⟩ v2).setCell ⟨g, 3, none⟩ v3).setCell ⟨g, 4, none⟩ v4).setCell ⟨g, 5, none⟩ v5) :=
  (((((h.setCell hg v0).setCell hg v1).setCell hg v2).setCell hg v3).setCell hg v4).setCell hg v5
theorem str_iff (s : ByteArray) (l : List UInt8) : (s.toList == l) = decide (s = ⟨l.toArray⟩) := by
  by_cases h : s = ⟨l.toArray⟩
  · subst h
    rw [decide_eq_true rfl, beq_iff_eq, Lib.toList_data]
  · rw [decide_eq_false h, beq_eq_false_iff_ne]
    intro e
    apply h
    rw [Lib.toList_data] at e
    apply ByteArray.ext
    apply Array.ext'
    exact e
theorem toList_iff (x y : ByteArray) : (x.toList == y.toList) = decide (x = y) := by
  by_cases h : x = y
  · subst h
    rw [decide_eq_true rfl, beq_self_eq_true]
  · rw [decide_eq_false h, beq_eq_false_iff_ne]
    intro e
    apply h
    rw [Lib.toList_data, Lib.toList_data] at e
    apply ByteArray.ext
    apply Array.ext'
    exact e
def encT (k : K6) (b : Bool) : Value := .tuple #[.agg #[.string k.kind, .string k.lang, .string k.width, .string k.name, .string k.cat, .string k.case_], .bool b]
/-- key's answer. -/
def KeyAt (e : Ending) : Option K6 → Prop
  | some k => e = .returned (encT k true)
  | none => ∃ k, e = .returned (encT k false)
set_option maxHeartbeats 40000000 in
set_option maxRecDepth 100000 in
theorem key_any (A : Option Addr) (c : Nat) (l : List ByteArray) (k : ByteArray) (w : World) (hG : Glob w) (hC : Kd.C Kd.string w A (k :: l).length (k :: l)) (hc : (k :: l).length ≤ c) (hok : ∀ s ∈ k :: l, TextOk s) (hk : kindN k ≠ 0) :
    Calls Tryz.prog 33 #[.slice A (k :: l).length c] w fun e w' => KeyAt e (keyW (k :: l)) ∧ Below w.heap.size w w' := by
  obtain ⟨r, hr⟩ : ∃ r, keyW (k :: l) = r := ⟨_, rfl⟩
  rw [hr]
  have hm : (k :: l).length ≤ 9223372036854775807 := hC.2.1
  obtain ⟨b0, o0, rfl, hcs⟩ := C_strsD hC (by simp)
  obtain ⟨nl, hnl⟩ : ∃ m, m = (k :: l).length := ⟨_, rfl⟩
  rw [← hnl] at hc hm ⊢
  have HR := Aside0.mk hr
  have HG := Aside0.mk hG
  have HK := Aside0.mk hok
  have HC : Aside0 (∀ j, j < nl → w.cell? ⟨b0, o0 + j, none⟩ = some (.string ((k :: l).getD j eS))) := ⟨fun j hj => hcs j (by rw [← hnl]; exact hj)⟩
  have HN := Aside0.mk hnl
  obtain ⟨n, hn⟩ : ∃ n, n = kindN k := ⟨_, rfl⟩
  have hn7 : n ≤ 7 := by rw [hn]; exact kindN_7 k
  have hn4 : 4 ≤ n := by rw [hn]; exact kindN_4 hk
  have HKn := Aside0.mk hn
  have h0n : 0 < nl := by rw [hnl]; simp
  clear hG hC hcs hok hk hr hnl
  have hmm := @run_makeMap Tryz.prog
  obtain ⟨w1, w2, w3, w4, w5, r1, r2, r3, r4, r5, b5, hlook⟩ := map5 (w.alloc (.cells #[.string eS, .string eS, .string eS, .string eS, .string eS, .string eS] 32))
  rw [show (w.alloc (.cells #[.string eS, .string eS, .string eS, .string eS, .string eS, .string eS] 32)).heap.size = w.heap.size + 1 by simp] at r1 r2 r3 r4 r5 hlook
  have hlk := hlook k (by have := (HK.out k List.mem_cons_self).size; unfold maxLen; omega)
  rw [← hn] at hlk
  have HB5 : Aside0 (Below w.heap.size w w5) := ⟨below_step (below_alloc (Below.refl _ _) _) b5⟩
  have hx0 := pw_cell_below HB5.out (HC.out 0 h0n)
  rw [Nat.add_zero, List.getD_cons_zero] at hx0
  have HBX := Aside0.mk (blk_below (blk_new w (.cells #[.string eS, .string eS, .string eS, .string eS, .string eS, .string eS] 32)) b5)
  have hz0 := (blk_cell HBX.out 0).trans (rfl : _ = some (Value.string eS))
  have hz1 := (blk_cell HBX.out 1).trans (rfl : _ = some (Value.string eS))
  have hz2 := (blk_cell HBX.out 2).trans (rfl : _ = some (Value.string eS))
  have hz3 := (blk_cell HBX.out 3).trans (rfl : _ = some (Value.string eS))
  have hz4 := (blk_cell HBX.out 4).trans (rfl : _ = some (Value.string eS))
  have hz5 := (blk_cell HBX.out 5).trans (rfl : _ = some (Value.string eS))
  have hf0 := blk_frozen HBX.out 0
  have hf1 := blk_frozen HBX.out 1
  have hf2 := blk_frozen HBX.out 2
  have hf3 := blk_frozen HBX.out 3
  have hf4 := blk_frozen HBX.out 4
  have hf5 := blk_frozen HBX.out 5
  clear hlook b5 hn
  go_enter Tryz.func33, Tryz.ntmps33
  by_cases hln : nl = n
  case neg =>
    have f1 : ((nl : Int) == (n : Int)) = false := by simp; omega
    have f2 : ((nl : Int) != (n : Int)) = true := by simp; omega
    go_wp2_with fail
    refine bodyPost_ret (v := encT ⟨eS, eS, eS, eS, eS, eS⟩ false) (by simp [results, Tryz.results33, go_sem, encT, hz0, hz1, hz2, hz3, hz4, hz5]) rfl ?_
    have hr := HR.out
    rw [keyW_no (by rw [← HN.out, ← HKn.out]; exact hln)] at hr
    subst hr
    exact ⟨⟨_, rfl⟩, below_set6 HB5.out _ (Nat.le_refl _) _ _ _ _ _ _⟩
  case pos =>
    subst hln
    obtain ⟨a, b, l2, rfl⟩ : ∃ a b l2, l = a :: b :: l2 := by
      have h := HN.out
      rcases l with _ | ⟨a, _ | ⟨b, l2⟩⟩
      · simp at h; omega
      · simp at h; omega
      · exact ⟨a, b, l2, rfl⟩
    have hx1 := pw_cell_below HB5.out (HC.out 1 (by omega))
    have hx2 := pw_cell_below HB5.out (HC.out 2 (by omega))
    rw [show (k :: a :: b :: l2).getD 1 eS = a from rfl] at hx1
    rw [show (k :: a :: b :: l2).getD 2 eS = b from rfl] at hx2
    have HX2 := Aside0.mk hx2
    clear hx2
    obtain ⟨xa, hxa⟩ : ∃ x, langK a = x := ⟨_, rfl⟩
    have HXa := Aside0.mk hxa
    clear hxa
    have p1 : 1 < nl := by omega
    have p2 : 2 < nl := by omega
    go_wp2_with fail
    refine (langK_any a xa _ (HG.out.below HB5.out) (HK.out a (by simp)) HXa.out).mono ?_
    rintro e w6 ⟨rfl, hb⟩
    have HB6 := Aside0.mk (below_step HB5.out hb)
    have HBX6 := Aside0.mk (blk_below HBX.out hb)
    clear hb hx0 hx1 hlk r1 r2 r3 r4 r5 hz0 hz1 hz2 hz3 hz4 hz5 hf0 hf1 hf2 hf3 hf4 hf5 HBX
    cases xa with
    | false =>
      have hz0 := (blk_cell HBX6.out 0).trans (rfl : _ = some (Value.string eS))
      have hz1 := (blk_cell HBX6.out 1).trans (rfl : _ = some (Value.string eS))
      have hz2 := (blk_cell HBX6.out 2).trans (rfl : _ = some (Value.string eS))
      have hz3 := (blk_cell HBX6.out 3).trans (rfl : _ = some (Value.string eS))
      have hz4 := (blk_cell HBX6.out 4).trans (rfl : _ = some (Value.string eS))
      have hz5 := (blk_cell HBX6.out 5).trans (rfl : _ = some (Value.string eS))
      have hf0 := blk_frozen HBX6.out 0
      have hf1 := blk_frozen HBX6.out 1
      have hf2 := blk_frozen HBX6.out 2
      have hf3 := blk_frozen HBX6.out 3
      have hf4 := blk_frozen HBX6.out 4
      have hf5 := blk_frozen HBX6.out 5
      go_wp2_with fail
      refine bodyPost_ret (v := encT ⟨eS, eS, eS, eS, eS, eS⟩ false) (by simp [results, Tryz.results33, go_sem, encT, hz0, hz1, hz2, hz3, hz4, hz5]) rfl ?_
      have hr := HR.out
      rw [keyW_off (by rw [HXa.out]; simp)] at hr
      subst hr
      exact ⟨⟨_, rfl⟩, below_set6 HB6.out _ (Nat.le_refl _) _ _ _ _ _ _⟩
    | true =>
      have hx2 := pw_cell_below HB6.out (HC.out 2 (by omega))
      rw [show (k :: a :: b :: l2).getD 2 eS = b from rfl] at hx2
      obtain ⟨xb, hxb⟩ : ∃ x, widthK b = x := ⟨_, rfl⟩
      have HXb := Aside0.mk hxb
      clear hxb
      go_wp2_with fail
      refine (widthK_any b xb _ (HG.out.below HB6.out) (HK.out b (by simp)) HXb.out).mono ?_
      rintro e w7 ⟨rfl, hb⟩
      have HB7 := Aside0.mk (below_step HB6.out hb)
      have HBX7 := Aside0.mk (blk_below HBX6.out hb)
      clear hb hx2 HBX6
      cases xb with
      | false =>
        have hz0 := (blk_cell HBX7.out 0).trans (rfl : _ = some (Value.string eS))
        have hz1 := (blk_cell HBX7.out 1).trans (rfl : _ = some (Value.string eS))
        have hz2 := (blk_cell HBX7.out 2).trans (rfl : _ = some (Value.string eS))
        have hz3 := (blk_cell HBX7.out 3).trans (rfl : _ = some (Value.string eS))
        have hz4 := (blk_cell HBX7.out 4).trans (rfl : _ = some (Value.string eS))
        have hz5 := (blk_cell HBX7.out 5).trans (rfl : _ = some (Value.string eS))
        have hf0 := blk_frozen HBX7.out 0
        have hf1 := blk_frozen HBX7.out 1
        have hf2 := blk_frozen HBX7.out 2
        have hf3 := blk_frozen HBX7.out 3
        have hf4 := blk_frozen HBX7.out 4
        have hf5 := blk_frozen HBX7.out 5
        go_wp2_with fail
        refine bodyPost_ret (v := encT ⟨eS, eS, eS, eS, eS, eS⟩ false) (by simp [results, Tryz.results33, go_sem, encT, hz0, hz1, hz2, hz3, hz4, hz5]) rfl ?_
        have hr := HR.out
        rw [keyW_off (by rw [HXb.out]; simp)] at hr
        subst hr
        exact ⟨⟨_, rfl⟩, below_set6 HB7.out _ (Nat.le_refl _) _ _ _ _ _ _⟩
      | true =>
        have hc3 : ¬ c = 3 := by omega
        have hc3' : ¬ 3 = c := by omega
        go_wp2_with fail
        obtain ⟨mn, hmn⟩ : ∃ m, m = nl - 1 - 3 := ⟨_, rfl⟩
        rw [← hmn]
        have hmn4 : mn + 4 = nl := by omega
        clear hmn hc3 hc3'
        have hl2 : l2.length + 3 = nl := by have := HN.out; simp only [List.length_cons] at this; omega
        have HL2 := Aside0.mk hl2
        clear hl2
        go_loopw [42] (fun i wr => ∃ (j : Nat), j ≤ mn ∧ i = .int .i64 j ∧ Aside0 ((l2.take j).all nameK = true) ∧ Aside0 (Below w7.heap.size w7 wr)) (fun i _ => mn - (intOf i).toNat)
        case atStart => exact ⟨0, Nat.zero_le _, rfl, ⟨by simp⟩, ⟨Below.refl _ _⟩⟩
        case round =>
          obtain ⟨j, hj, rfl, HA, HBr⟩ := hrel
          rename_i wr
          have HBW := Aside0.mk (below_step HB7.out HBr.out)
          have HBXW := Aside0.mk (blk_below HBX7.out HBr.out)
          by_cases hlt : j < mn
          · have hjl : j < l2.length := by have := HL2.out; omega
            have hx := pw_cell_below HBW.out (HC.out (3 + j) (by omega))
            rw [show 3 + j = j + 1 + 1 + 1 by omega, List.getD_cons_succ, List.getD_cons_succ, List.getD_cons_succ, List.getD_eq_getElem?_getD, List.getElem?_eq_getElem hjl, Option.getD_some, show o0 + (j + 1 + 1 + 1) = o0 + 3 + j by omega] at hx
            have hso : TextOk l2[j] := HK.out _ (by simp)
            have htk := List.take_succ_eq_append_getElem hjl
            obtain ⟨s, hs⟩ : ∃ s, s = l2[j] := ⟨_, rfl⟩
            rw [← hs] at hx hso htk
            obtain ⟨xs, hxs⟩ : ∃ x, nameK s = x := ⟨_, rfl⟩
            have HXs := Aside0.mk hxs
            have HSo := Aside0.mk hso
            have HTk := Aside0.mk htk
            clear hs hxs hso htk
            go_wp2_with fail
            refine (nameK_any s xs _ (HG.out.below HBW.out) HSo.out HXs.out).mono ?_
            rintro e w8 ⟨rfl, hb⟩
            have HB8 := Aside0.mk (below_step HBW.out hb)
            have HBX8 := Aside0.mk (blk_below HBXW.out hb)
            have HBr8 := Aside0.mk (below_step HBr.out hb)
            clear hb hx
            cases xs with
            | false =>
              have hoff : ¬ (langK a = true ∧ widthK b = true ∧ ((l2.take (kindN k - 4)).all nameK) = true) := fun q => by
                have h1 : s ∈ l2.take (kindN k - 4) := by
                  rw [← HKn.out, show nl - 4 = mn by omega]
                  have h2 : s ∈ l2.take (j + 1) := by rw [HTk.out]; simp
                  exact (List.take_subset_take_left l2 (by omega)) h2
                have h3 := List.all_eq_true.1 q.2.2 s h1
                rw [HXs.out] at h3
                cases h3
              have HOff := Aside0.mk hoff
              clear hoff
              have hz0 := (blk_cell HBX8.out 0).trans (rfl : _ = some (Value.string eS))
              have hz1 := (blk_cell HBX8.out 1).trans (rfl : _ = some (Value.string eS))
              have hz2 := (blk_cell HBX8.out 2).trans (rfl : _ = some (Value.string eS))
              have hz3 := (blk_cell HBX8.out 3).trans (rfl : _ = some (Value.string eS))
              have hz4 := (blk_cell HBX8.out 4).trans (rfl : _ = some (Value.string eS))
              have hz5 := (blk_cell HBX8.out 5).trans (rfl : _ = some (Value.string eS))
              have hf0 := blk_frozen HBX8.out 0
              have hf1 := blk_frozen HBX8.out 1
              have hf2 := blk_frozen HBX8.out 2
              have hf3 := blk_frozen HBX8.out 3
              have hf4 := blk_frozen HBX8.out 4
              have hf5 := blk_frozen HBX8.out 5
              go_wp2_with fail
              refine bodyPost_ret (v := encT ⟨eS, eS, eS, eS, eS, eS⟩ false) (by simp [results, Tryz.results33, go_sem, encT, hz0, hz1, hz2, hz3, hz4, hz5]) rfl ?_
              have hr := HR.out
              rw [keyW_off HOff.out] at hr
              subst hr
              exact ⟨⟨_, rfl⟩, below_set6 HB8.out _ (Nat.le_refl _) _ _ _ _ _ _⟩
            | true =>
              have hall : (l2.take (j + 1)).all nameK = true := by
                rw [HTk.out, List.all_append, HA.out]
                simp [HXs.out]
              have HA2 := Aside0.mk hall
              clear hall
              go_wp2_with fail
              exact ⟨⟨j + 1, by omega, by go_num, HA2, HBr8⟩, by simp [intOf]; omega⟩
          · obtain rfl : mn = j := by omega
            have HX0 : Aside0 (w.cell? ⟨b0, o0, none⟩ = some (.string k)) := ⟨by have h := HC.out 0 (by omega); rwa [Nat.add_zero, List.getD_cons_zero] at h⟩
            have HX1 : Aside0 (w.cell? ⟨b0, o0 + 1, none⟩ = some (.string a)) := ⟨HC.out 1 (by omega)⟩
            have HX2 : Aside0 (w.cell? ⟨b0, o0 + 2, none⟩ = some (.string b)) := ⟨HC.out 2 (by omega)⟩
            have hr := HR.out
            rw [keyW, if_pos ⟨by rw [← HKn.out]; exact HL2.out, HXa.out, HXb.out, by rw [← HKn.out, show nl - 4 = mn by omega]; exact HA.out⟩] at hr
            have HR2 := Aside0.mk hr
            clear hr
            have i1 : (1 : Int) < (nl : Int) := by omega
            have i2 : (2 : Int) < (nl : Int) := by omega
            go_wp2_with fail
            refine start_ (n := 12) (S := fun w' => w'.cell? ⟨b0, o0, none⟩ = some (.string k) ∧ w'.cell? ⟨b0, o0 + 1, none⟩ = some (.string a) ∧ w'.cell? ⟨b0, o0 + 2, none⟩ = some (.string b)) (ds := []) #[false, false, false, false, false, false, false, false, false, false, false, false] (by kernel_rfl) rfl rfl ⟨pw_cell_below (below_drew HBW.out) HX0.out, pw_cell_below (below_drew HBW.out) HX1.out, pw_cell_below (below_drew HBW.out) HX2.out⟩ (fun hHeld => ?_)
            refine pure_ (i := 0) (N := some 51) (v := ?_) (a' := ?_) #[true, false, false, false, false, false, false, false, false, false, false, false] rfl rfl (by kernel_rfl) (fun _ _ _ h => h) (Or.inl ⟨by rfl, ?_⟩) ?_ ?_
            rotate_left
            · intro w'
              go_simp
              with_reducible rfl
            rotate_left
            · simp only [Act.put, List.setIfInBounds_toArray, List.set_cons_zero, List.set_cons_succ, i64_w, i32_w]
              rfl
            refine pure_ (i := 1) (N := some 52) (v := ?_) (a' := ?_) #[true, true, false, false, false, false, false, false, false, false, false, false] rfl rfl (by kernel_rfl) (fun _ _ _ h => h) (Or.inl ⟨by rfl, ?_⟩) ?_ ?_
            rotate_left
            · intro w'
              go_simp
              with_reducible rfl
            rotate_left
            · simp only [Act.put, List.setIfInBounds_toArray, List.set_cons_zero, List.set_cons_succ, i64_w, i32_w]
              rfl
            refine pure_ (i := 3) (N := some 54) (v := ?_) (a' := ?_) #[true, true, false, true, false, false, false, false, false, false, false, false] rfl rfl (by kernel_rfl) (fun _ _ _ h => h) (Or.inl ⟨by rfl, ?_⟩) ?_ ?_
            rotate_left
            · intro w'
              go_simp
              with_reducible rfl
            rotate_left
            · simp only [Act.put, List.setIfInBounds_toArray, List.set_cons_zero, List.set_cons_succ, i64_w, i32_w]
              rfl
            refine pure_ (i := 4) (N := some 55) (v := ?_) (a' := ?_) #[true, true, false, true, true, false, false, false, false, false, false, false] rfl rfl (by kernel_rfl) (fun _ _ _ h => h) (Or.inl ⟨by rfl, ?_⟩) ?_ ?_
            rotate_left
            · intro w'
              go_simp
              with_reducible rfl
            rotate_left
            · simp only [Act.put, List.setIfInBounds_toArray, List.set_cons_zero, List.set_cons_succ, i64_w, i32_w]
              rfl
            refine pure_ (i := 6) (N := some 57) (v := ?_) (a' := ?_) #[true, true, false, true, true, false, true, false, false, false, false, false] rfl rfl (by kernel_rfl) (fun _ _ _ h => h) (Or.inl ⟨by rfl, ?_⟩) ?_ ?_
            rotate_left
            · intro w'
              go_simp
              with_reducible rfl
            rotate_left
            · simp only [Act.put, List.setIfInBounds_toArray, List.set_cons_zero, List.set_cons_succ, i64_w, i32_w]
              rfl
            refine pure_ (i := 7) (N := some 58) (v := ?_) (a' := ?_) #[true, true, false, true, true, false, true, true, false, false, false, false] rfl rfl (by kernel_rfl) (fun _ _ _ h => h) (Or.inl ⟨by rfl, ?_⟩) ?_ ?_
            rotate_left
            · intro w'
              go_simp
              with_reducible rfl
            rotate_left
            · simp only [Act.put, List.setIfInBounds_toArray, List.set_cons_zero, List.set_cons_succ, i64_w, i32_w]
              rfl
            refine take_ (i := 2) (N := some 53) (v := ?_) (a' := ?_) #[true, true, true, true, true, false, true, true, false, false, false, false] rfl rfl (by kernel_rfl) (fun _ _ _ h => h) (Or.inl ⟨by rfl, ?_⟩) hHeld ?_ ?_
            rotate_left
            · rintro w' ⟨s0, s1, s2⟩
              go_simp
              with_reducible rfl
            rotate_left
            · simp only [Act.put, List.setIfInBounds_toArray, List.set_cons_zero, List.set_cons_succ, i64_w, i32_w]
              rfl
            refine take_ (i := 5) (N := some 56) (v := ?_) (a' := ?_) #[true, true, true, true, true, true, true, true, false, false, false, false] rfl rfl (by kernel_rfl) (fun _ _ _ h => h) (Or.inl ⟨by rfl, ?_⟩) hHeld ?_ ?_
            rotate_left
            · rintro w' ⟨s0, s1, s2⟩
              go_simp
              with_reducible rfl
            rotate_left
            · simp only [Act.put, List.setIfInBounds_toArray, List.set_cons_zero, List.set_cons_succ, i64_w, i32_w]
              rfl
            refine take_ (i := 8) (N := some 59) (v := ?_) (a' := ?_) #[true, true, true, true, true, true, true, true, true, false, false, false] rfl rfl (by kernel_rfl) (fun _ _ _ h => h) (Or.inl ⟨by rfl, ?_⟩) hHeld ?_ ?_
            rotate_left
            · rintro w' ⟨s0, s1, s2⟩
              go_simp
              with_reducible rfl
            rotate_left
            · simp only [Act.put, List.setIfInBounds_toArray, List.set_cons_zero, List.set_cons_succ, i64_w, i32_w]
              rfl
            refine pure_ (i := 9) (N := some 60) (v := ?_) (a' := ?_) #[true, true, true, true, true, true, true, true, true, true, false, false] rfl rfl (by kernel_rfl) (fun _ _ _ h => h) (Or.inl ⟨by rfl, ?_⟩) ?_ ?_
            rotate_left
            · intro w'
              go_simp
              with_reducible rfl
            rotate_left
            · simp only [Act.put, List.setIfInBounds_toArray, List.set_cons_zero, List.set_cons_succ, i64_w, i32_w]
              rfl
            refine one_ (i := 10) (N := some 7) #[true, true, true, true, true, true, true, true, true, true, true, false] rfl rfl (by kernel_rfl) (by decide) (fun K hK => ?_)
            refine value_ (w1 := ?_) (v := ?_) (by rfl) rfl ?_ ?_
            rotate_left 2
            · go_simp
              constructor
              · rfl
              · rfl
            have HW2 : Aside0 (∀ o2, Below w.heap.size w (wr.drew.alloc o2)) := ⟨fun o2 => below_alloc (below_drew HBW.out) o2⟩
            refine hK.out _ _ ⟨pw_cell_below (HW2.out _) HX0.out, pw_cell_below (HW2.out _) HX1.out, pw_cell_below (HW2.out _) HX2.out⟩ (fun hHeld => ?_)
            clear hK K
            refine norm_ (a' := ?_) ?_ ?_
            rotate_left
            · show Act.put _ (some 7) _ = _
              simp only [Act.put, List.setIfInBounds_toArray, List.set_cons_zero, List.set_cons_succ, i64_w, i32_w]
              rfl
            refine one_ (i := 11) (N := none) #[true, true, true, true, true, true, true, true, true, true, true, true] rfl rfl (by kernel_rfl) (by decide) (fun K hK => ?_)
            refine skip_ (w1 := ?_) (by rfl) rfl ?_ ?_
            rotate_left
            · go_simp
              rfl
            have HBw10 : Aside0 (Below w.heap.size w ((wr.alloc (.cells #[.string k, .string a, .string b, .string ⟨#[]⟩, .string ⟨#[]⟩, .string ⟨#[]⟩] 32)).drew)) := ⟨below_drew (below_alloc HBW.out _)⟩
            have BK10 : Aside0 (((wr.alloc (.cells #[.string k, .string a, .string b, .string ⟨#[]⟩, .string ⟨#[]⟩, .string ⟨#[]⟩] 32)).drew).heap[wr.heap.size]? = some (.cells #[.string k, .string a, .string b, .string ⟨#[]⟩, .string ⟨#[]⟩, .string ⟨#[]⟩] 32 (0, 0))) := ⟨blk_new wr _⟩
            have BX10 : Aside0 (((wr.alloc (.cells #[.string k, .string a, .string b, .string ⟨#[]⟩, .string ⟨#[]⟩, .string ⟨#[]⟩] 32)).drew).heap[w.heap.size]? = some (.cells #[.string eS, .string eS, .string eS, .string eS, .string eS, .string eS] 32 (0, 0))) := ⟨blk_below HBXW.out (below_drew (below_alloc (Below.refl _ _) _))⟩
            have hgw : w.heap.size < wr.heap.size := blk_lt HBXW.out
            generalize wr.heap.size = g10 at BK10 hgw ⊢
            change K _ ((wr.alloc (.cells #[.string k, .string a, .string b, .string ⟨#[]⟩, .string ⟨#[]⟩, .string ⟨#[]⟩] 32)).drew)
            generalize ((wr.alloc (.cells #[.string k, .string a, .string b, .string ⟨#[]⟩, .string ⟨#[]⟩, .string ⟨#[]⟩] 32)).drew) = w10 at HBw10 BK10 BX10 ⊢
            refine hK.out _ _ ⟨pw_cell_below HBw10.out HX0.out, pw_cell_below HBw10.out HX1.out, pw_cell_below HBw10.out HX2.out⟩ (fun hHeld => ?_)
            clear hK K
            refine done_ (by kernel_rfl) ?_
            clear hHeld
            have hzx := HC.out (nl - 1) (by omega)
            obtain ⟨z, hz⟩ : ∃ z, z = (k :: a :: b :: l2).getD (nl - 1) eS := ⟨_, rfl⟩
            rw [← hz] at hzx
            have hzl : z = l2.getD mn eS := by rw [hz, show nl - 1 = mn + 1 + 1 + 1 by omega, List.getD_cons_succ, List.getD_cons_succ, List.getD_cons_succ]
            have hzk : TextOk z := by rw [hzl, List.getD_eq_getElem?_getD, List.getElem?_eq_getElem (by have := HL2.out; omega)]; exact HK.out _ (by simp)
            have hx := pw_cell_below HBw10.out hzx
            have HZ := Aside0.mk hzl
            have HZk := Aside0.mk hzk
            have e1 : ((nl : Int) - 1).toNat = nl - 1 := by omega
            have g1 : (0 : Int) ≤ (nl : Int) - 1 := by omega
            obtain ⟨zb, hzb⟩ : ∃ x, blankK z = x := ⟨_, rfl⟩
            obtain ⟨s1, hs1⟩ : ∃ x, Lib.countB zb c0 = x := ⟨_, rfl⟩
            obtain ⟨s2, hs2⟩ : ∃ x, Lib.countB zb c1 = x := ⟨_, rfl⟩
            have hsg : sgnK z = (s1, s2) := by unfold sgnK; rw [hzb, hs1, hs2]
            have HZb := Aside0.mk hzb
            have HS1 := Aside0.mk hs1
            have HS2 := Aside0.mk hs2
            have HSg := Aside0.mk hsg
            clear hz hzl hzk hzx hzb hs1 hs2 hsg
            go_wp2_with fail
            refine (blankK_any z zb _ (HG.out.below HBw10.out) HZk.out HZb.out).mono ?_
            rintro e w11 ⟨rfl, hb⟩
            have HB11 := Aside0.mk (below_step HBw10.out hb)
            have BK11 := Aside0.mk (blk_below BK10.out hb)
            have BX11 := Aside0.mk (blk_below BX10.out hb)
            clear hb hx e1 g1
            go_wp2_with fail
            refine (signsK_any zb s1 s2 _ (HG.out.below HB11.out) (by rw [← HZb.out]; exact HZk.out.short) HS1.out HS2.out).mono ?_
            rintro e w12 ⟨rfl, hb⟩
            have HB12 := Aside0.mk (below_step HB11.out hb)
            have BK12 := Aside0.mk (blk_below BK11.out hb)
            have BX12 := Aside0.mk (blk_below BX11.out hb)
            clear hb BK10 BX10 BK11 BX11 HBXW HBX7
            have hx0 := pw_cell_below HB12.out HX0.out
            by_cases hk1 : k = bWord
            · skip
              have t1 : (k.toList == ([119, 111, 114, 100] : List UInt8)) = true := by rw [str_iff]; exact decide_eq_true hk1
              have h7 : nl = 7 := by rw [HKn.out, hk1]; rfl
              have D0 : Aside0 (w.cell? ⟨b0, o0 + 3, none⟩ = some (.string (l2.getD 0 eS))) := ⟨HC.out 3 (by omega)⟩
              have i3 : (3 : Int) < (nl : Int) := by omega
              have K0 : Aside0 (TextOk (l2.getD 0 eS)) := ⟨by rw [List.getD_eq_getElem?_getD, List.getElem?_eq_getElem (by have := HL2.out; omega)]; exact HK.out _ (by simp)⟩
              have D1 : Aside0 (w.cell? ⟨b0, o0 + 4, none⟩ = some (.string (l2.getD 1 eS))) := ⟨HC.out 4 (by omega)⟩
              have i4 : (4 : Int) < (nl : Int) := by omega
              have K1 : Aside0 (TextOk (l2.getD 1 eS)) := ⟨by rw [List.getD_eq_getElem?_getD, List.getElem?_eq_getElem (by have := HL2.out; omega)]; exact HK.out _ (by simp)⟩
              have D2 : Aside0 (w.cell? ⟨b0, o0 + 5, none⟩ = some (.string (l2.getD 2 eS))) := ⟨HC.out 5 (by omega)⟩
              have i5 : (5 : Int) < (nl : Int) := by omega
              have K2 : Aside0 (TextOk (l2.getD 2 eS)) := ⟨by rw [List.getD_eq_getElem?_getD, List.getElem?_eq_getElem (by have := HL2.out; omega)]; exact HK.out _ (by simp)⟩
              have hr := HR2.out
              rw [if_pos hk1, ← show z = l2.getD 3 eS from by rw [HZ.out, show mn = 3 by omega], HSg.out] at hr
              have HR3 := Aside0.mk hr
              clear hr
              obtain ⟨d0, hd0⟩ : ∃ x, l2.getD 0 eS = x := ⟨_, rfl⟩
              obtain ⟨d1, hd1⟩ : ∃ x, l2.getD 1 eS = x := ⟨_, rfl⟩
              obtain ⟨d2, hd2⟩ : ∃ x, l2.getD 2 eS = x := ⟨_, rfl⟩
              rw [hd0] at D0 K0 HR3
              rw [hd1] at D1 K1 HR3
              rw [hd2] at D2 K2 HR3
              clear hd0
              clear hd1
              clear hd2
              obtain ⟨sm, hsm⟩ : ∃ x, someK d2 = x := ⟨_, rfl⟩
              rw [hsm] at HR3
              have HSm := Aside0.mk hsm
              clear hsm h7
              have hbg : b0 ≠ g10 := by have := World.block_lt_of_cell? w ⟨b0, o0, none⟩ HX0.out; dsimp only at this; omega
              have Hk1 := Aside0.mk hk1
              clear hk1
              go_wp2_with fail
              refine start_ (n := 16) (S := fun w' => w'.cell? ⟨b0, o0 + 3, none⟩ = some (.string d0) ∧ w'.cell? ⟨b0, o0 + 4, none⟩ = some (.string d1) ∧ w'.cell? ⟨b0, o0 + 5, none⟩ = some (.string d2)) (ds := [13, 15]) #[false, false, false, false, false, false, false, false, false, false, false, false, false, false, false, false] (by kernel_rfl) rfl rfl ⟨pw_cell_below (below_drew HB12.out) D0.out, pw_cell_below (below_drew HB12.out) D1.out, pw_cell_below (below_drew HB12.out) D2.out⟩ (fun hHeld => ?_)
              refine pure_ (i := 0) (N := some 76) (v := ?_) (a' := ?_) #[true, false, false, false, false, false, false, false, false, false, false, false, false, false, false, false] rfl rfl (by kernel_rfl) (fun _ _ _ h => h) (Or.inl ⟨by rfl, ?_⟩) ?_ ?_
              rotate_left
              · intro w'
                go_simp
                with_reducible rfl
              rotate_left
              · simp only [Act.put, List.setIfInBounds_toArray, List.set_cons_zero, List.set_cons_succ, i64_w, i32_w]
                rfl
              refine pure_ (i := 1) (N := some 77) (v := ?_) (a' := ?_) #[true, true, false, false, false, false, false, false, false, false, false, false, false, false, false, false] rfl rfl (by kernel_rfl) (fun _ _ _ h => h) (Or.inl ⟨by rfl, ?_⟩) ?_ ?_
              rotate_left
              · intro w'
                go_simp
                with_reducible rfl
              rotate_left
              · simp only [Act.put, List.setIfInBounds_toArray, List.set_cons_zero, List.set_cons_succ, i64_w, i32_w]
                rfl
              refine pure_ (i := 3) (N := some 79) (v := ?_) (a' := ?_) #[true, true, false, true, false, false, false, false, false, false, false, false, false, false, false, false] rfl rfl (by kernel_rfl) (fun _ _ _ h => h) (Or.inl ⟨by rfl, ?_⟩) ?_ ?_
              rotate_left
              · intro w'
                go_simp
                with_reducible rfl
              rotate_left
              · simp only [Act.put, List.setIfInBounds_toArray, List.set_cons_zero, List.set_cons_succ, i64_w, i32_w]
                rfl
              refine pure_ (i := 4) (N := some 80) (v := ?_) (a' := ?_) #[true, true, false, true, true, false, false, false, false, false, false, false, false, false, false, false] rfl rfl (by kernel_rfl) (fun _ _ _ h => h) (Or.inl ⟨by rfl, ?_⟩) ?_ ?_
              rotate_left
              · intro w'
                go_simp
                with_reducible rfl
              rotate_left
              · simp only [Act.put, List.setIfInBounds_toArray, List.set_cons_zero, List.set_cons_succ, i64_w, i32_w]
                rfl
              refine pure_ (i := 6) (N := some 82) (v := ?_) (a' := ?_) #[true, true, false, true, true, false, true, false, false, false, false, false, false, false, false, false] rfl rfl (by kernel_rfl) (fun _ _ _ h => h) (Or.inl ⟨by rfl, ?_⟩) ?_ ?_
              rotate_left
              · intro w'
                go_simp
                with_reducible rfl
              rotate_left
              · simp only [Act.put, List.setIfInBounds_toArray, List.set_cons_zero, List.set_cons_succ, i64_w, i32_w]
                rfl
              refine pure_ (i := 7) (N := some 83) (v := ?_) (a' := ?_) #[true, true, false, true, true, false, true, true, false, false, false, false, false, false, false, false] rfl rfl (by kernel_rfl) (fun _ _ _ h => h) (Or.inl ⟨by rfl, ?_⟩) ?_ ?_
              rotate_left
              · intro w'
                go_simp
                with_reducible rfl
              rotate_left
              · simp only [Act.put, List.setIfInBounds_toArray, List.set_cons_zero, List.set_cons_succ, i64_w, i32_w]
                rfl
              refine take_ (i := 2) (N := some 78) (v := ?_) (a' := ?_) #[true, true, true, true, true, false, true, true, false, false, false, false, false, false, false, false] rfl rfl (by kernel_rfl) (fun _ _ _ h => h) (Or.inl ⟨by rfl, ?_⟩) hHeld ?_ ?_
              rotate_left
              · rintro w' ⟨s0, s1, s2⟩
                go_simp
                with_reducible rfl
              rotate_left
              · simp only [Act.put, List.setIfInBounds_toArray, List.set_cons_zero, List.set_cons_succ, i64_w, i32_w]
                rfl
              refine pure_ (i := 10) (N := some 86) (v := ?_) (a' := ?_) #[true, true, true, true, true, false, true, true, false, false, true, false, false, false, false, false] rfl rfl (by kernel_rfl) (fun _ _ _ h => h) (Or.inl ⟨by rfl, ?_⟩) ?_ ?_
              rotate_left
              · intro w'
                go_simp
                with_reducible rfl
              rotate_left
              · simp only [Act.put, List.setIfInBounds_toArray, List.set_cons_zero, List.set_cons_succ, i64_w, i32_w]
                rfl
              refine take_ (i := 5) (N := some 81) (v := ?_) (a' := ?_) #[true, true, true, true, true, true, true, true, false, false, true, false, false, false, false, false] rfl rfl (by kernel_rfl) (fun _ _ _ h => h) (Or.inl ⟨by rfl, ?_⟩) hHeld ?_ ?_
              rotate_left
              · rintro w' ⟨s0, s1, s2⟩
                go_simp
                with_reducible rfl
              rotate_left
              · simp only [Act.put, List.setIfInBounds_toArray, List.set_cons_zero, List.set_cons_succ, i64_w, i32_w]
                rfl
              refine take_ (i := 8) (N := some 84) (v := ?_) (a' := ?_) #[true, true, true, true, true, true, true, true, true, false, true, false, false, false, false, false] rfl rfl (by kernel_rfl) (fun _ _ _ h => h) (Or.inl ⟨by rfl, ?_⟩) hHeld ?_ ?_
              rotate_left
              · rintro w' ⟨s0, s1, s2⟩
                go_simp
                with_reducible rfl
              rotate_left
              · simp only [Act.put, List.setIfInBounds_toArray, List.set_cons_zero, List.set_cons_succ, i64_w, i32_w]
                rfl
              refine one_ (i := 9) (N := some 85) #[true, true, true, true, true, true, true, true, true, true, true, false, false, false, false, false] rfl rfl (by kernel_rfl) (by decide) (fun K hK => ?_)
              refine goes_ Tryz.func44 (by kernel_rfl) rfl #[.string d2] (by rfl) rfl rfl (by simp only [List.map_toArray, List.map_cons, List.map_nil]; rfl) ?_
              with_reducible refine (someK_any d2 sm _ (HG.out.below (below_drew HB12.out)) K2.out HSm.out).mono ?_
              rintro e w13 ⟨rfl, hb13⟩
              refine ⟨_, rfl, ?_⟩
              have HB13 := Aside0.mk (below_step (below_drew HB12.out) hb13)
              have BK13 := Aside0.mk (blk_below (blk_drew BK12.out) hb13)
              have BX13 := Aside0.mk (blk_below (blk_drew BX12.out) hb13)
              clear hb13
              have hy3 := (blk_cell BK13.out 3).trans (rfl : _ = some (Value.string ⟨#[]⟩))
              have hg3 := blk_frozen BK13.out 3
              have hy4 := (blk_cell BK13.out 4).trans (rfl : _ = some (Value.string ⟨#[]⟩))
              have hg4 := blk_frozen BK13.out 4
              have hy5 := (blk_cell BK13.out 5).trans (rfl : _ = some (Value.string ⟨#[]⟩))
              have hg5 := blk_frozen BK13.out 5
              refine hK.out _ _ ⟨pw_cell_below HB13.out D0.out, pw_cell_below HB13.out D1.out, pw_cell_below HB13.out D2.out⟩ (fun hHeld => ?_)
              clear hK K
              refine norm_ (a' := ?_) ?_ ?_
              rotate_left
              · show Act.put _ (some 85) _ = _
                simp only [Act.put, List.setIfInBounds_toArray, List.set_cons_zero, List.set_cons_succ, i64_w, i32_w]
                rfl
              refine one_ (i := 11) (N := none) #[true, true, true, true, true, true, true, true, true, true, true, true, false, false, false, false] rfl rfl (by kernel_rfl) (by decide) (fun K hK => ?_)
              refine skip_ (w1 := ?_) (by rfl) rfl ?_ ?_
              rotate_left
              · go_simp
                rfl
              refine hK.out _ _ ⟨(cell_far hbg _).trans (pw_cell_below HB13.out D0.out), (cell_far hbg _).trans (pw_cell_below HB13.out D1.out), (cell_far hbg _).trans (pw_cell_below HB13.out D2.out)⟩ (fun hHeld => ?_)
              clear hK K
              refine pure_ (i := 12) (N := some 87) (v := ?_) (a' := ?_) #[true, true, true, true, true, true, true, true, true, true, true, true, true, false, false, false] rfl rfl (by kernel_rfl) (fun _ _ _ h => h) (Or.inl ⟨by rfl, ?_⟩) ?_ ?_
              rotate_left
              · intro w'
                go_simp
                with_reducible rfl
              rotate_left
              · simp only [Act.put, List.setIfInBounds_toArray, List.set_cons_zero, List.set_cons_succ, i64_w, i32_w]
                rfl
              refine last_ (i := 13) (N := none) #[true, true, true, true, true, true, true, true, true, true, true, true, true, true, false, false] rfl rfl (by kernel_rfl) (by decide) (fun K hK => ?_)
              refine skip_ (w1 := ?_) (by rfl) rfl ?_ ?_
              rotate_left
              · go_simp
                rfl
              refine hK.out _ _ ?_
              clear hK K
              refine pure_ (i := 14) (N := some 88) (v := ?_) (a' := ?_) #[true, true, true, true, true, true, true, true, true, true, true, true, true, true, true, false] rfl rfl (by kernel_rfl) (fun _ _ _ h => h) (Or.inl ⟨by rfl, ?_⟩) ?_ ?_
              rotate_left
              · intro w'
                go_simp
                with_reducible rfl
              rotate_left
              · simp only [Act.put, List.setIfInBounds_toArray, List.set_cons_zero, List.set_cons_succ, i64_w, i32_w]
                rfl
              refine last_ (i := 15) (N := none) #[true, true, true, true, true, true, true, true, true, true, true, true, true, true, true, true] rfl rfl (by kernel_rfl) (by decide) (fun K hK => ?_)
              refine skip_ (w1 := ?_) (by rfl) rfl ?_ ?_
              rotate_left
              · go_simp
                rfl
              refine hK.out _ _ ?_
              clear hK K
              refine done_ (by kernel_rfl) ?_
              have HBn : Aside0 (Below w.heap.size w (((w13.setCell ⟨g10, 3, none⟩ (.string d0)).setCell ⟨g10, 4, none⟩ (.string d1)).setCell ⟨g10, 5, none⟩ (.string sm))) := ⟨(Below.setCell (Below.setCell (Below.setCell HB13.out (Nat.le_of_lt hgw) _) (Nat.le_of_lt hgw) _) (Nat.le_of_lt hgw) _)⟩
              have BKn : Aside0 ((((w13.setCell ⟨g10, 3, none⟩ (.string d0)).setCell ⟨g10, 4, none⟩ (.string d1)).setCell ⟨g10, 5, none⟩ (.string sm)).heap[g10]? = some (.cells #[.string k, .string a, .string b, .string d0, .string d1, .string sm] 32 (0, 0))) := ⟨(blk_put (blk_put (blk_put BK13.out 3 _ rfl) 4 _ rfl) 5 _ rfl)⟩
              have BXn : Aside0 ((((w13.setCell ⟨g10, 3, none⟩ (.string d0)).setCell ⟨g10, 4, none⟩ (.string d1)).setCell ⟨g10, 5, none⟩ (.string sm)).heap[w.heap.size]? = some (.cells #[.string eS, .string eS, .string eS, .string eS, .string eS, .string eS] 32 (0, 0))) := ⟨(blk_far (blk_far (blk_far BX13.out (Nat.ne_of_lt hgw) _) (Nat.ne_of_lt hgw) _) (Nat.ne_of_lt hgw) _)⟩
              generalize (((w13.setCell ⟨g10, 3, none⟩ (.string d0)).setCell ⟨g10, 4, none⟩ (.string d1)).setCell ⟨g10, 5, none⟩ (.string sm)) = w14 at HBn BKn BXn ⊢
              clear hy3 hy4 hy5 hg3 hg4 hg5 hx0
              have hy0 := (blk_cell BKn.out 0).trans (rfl : _ = some (Value.string k))
              have hy1 := (blk_cell BKn.out 1).trans (rfl : _ = some (Value.string a))
              have hy2 := (blk_cell BKn.out 2).trans (rfl : _ = some (Value.string b))
              have hy3 := (blk_cell BKn.out 3).trans (rfl : _ = some (Value.string d0))
              have hy4 := (blk_cell BKn.out 4).trans (rfl : _ = some (Value.string d1))
              have hy5 := (blk_cell BKn.out 5).trans (rfl : _ = some (Value.string sm))
              have hz0 := (blk_cell BXn.out 0).trans (rfl : _ = some (Value.string eS))
              have hz1 := (blk_cell BXn.out 1).trans (rfl : _ = some (Value.string eS))
              have hz2 := (blk_cell BXn.out 2).trans (rfl : _ = some (Value.string eS))
              have hz3 := (blk_cell BXn.out 3).trans (rfl : _ = some (Value.string eS))
              have hz4 := (blk_cell BXn.out 4).trans (rfl : _ = some (Value.string eS))
              have hz5 := (blk_cell BXn.out 5).trans (rfl : _ = some (Value.string eS))
              have hf0 := blk_frozen BXn.out 0
              have hf1 := blk_frozen BXn.out 1
              have hf2 := blk_frozen BXn.out 2
              have hf3 := blk_frozen BXn.out 3
              have hf4 := blk_frozen BXn.out 4
              have hf5 := blk_frozen BXn.out 5
              by_cases q1 : s1 ≤ 1
              · by_cases q2 : s2 = 0
                · skip
                  have q1' : (s1 : Int) ≤ 1 := by omega
                  have q2' : ((s2 : Int) == 0) = true := by rw [beq_iff_eq]; omega
                  have hr := HR3.out
                  rw [if_pos ⟨q1, q2⟩] at hr
                  clear q1 q2
                  go_wp2_with fail
                  refine bodyPost_ret (v := encT ⟨k, a, b, d0, d1, sm⟩ true) (by simp [results, Tryz.results33, go_sem, encT, hz0, hz1, hz2, hz3, hz4, hz5]) rfl ?_
                  exact ⟨by rw [← hr]; exact rfl, by first | exact below_set6 HBn.out _ (Nat.le_refl _) _ _ _ _ _ _ | exact below_drew (below_set6 HBn.out _ (Nat.le_refl _) _ _ _ _ _ _)⟩
                · skip
                  have q1' : (s1 : Int) ≤ 1 := by omega
                  have q2' : ((s2 : Int) == 0) = false := by rw [beq_eq_false_iff_ne]; omega
                  have hr := HR3.out
                  rw [if_neg (fun h => q2 h.2)] at hr
                  clear q1 q2
                  go_wp2_with fail
                  refine bodyPost_ret (v := encT ⟨k, a, b, d0, d1, sm⟩ false) (by simp [results, Tryz.results33, go_sem, encT, hz0, hz1, hz2, hz3, hz4, hz5]) rfl ?_
                  exact ⟨by rw [← hr]; exact ⟨_, rfl⟩, by first | exact below_set6 HBn.out _ (Nat.le_refl _) _ _ _ _ _ _ | exact below_drew (below_set6 HBn.out _ (Nat.le_refl _) _ _ _ _ _ _)⟩
              · skip
                have q1' : ¬ (s1 : Int) ≤ 1 := by omega
                have hr := HR3.out
                rw [if_neg (fun h => q1 h.1)] at hr
                clear q1
                go_wp2_with fail
                refine bodyPost_ret (v := encT ⟨k, a, b, d0, d1, sm⟩ false) (by simp [results, Tryz.results33, go_sem, encT, hz0, hz1, hz2, hz3, hz4, hz5]) rfl ?_
                exact ⟨by rw [← hr]; exact ⟨_, rfl⟩, by first | exact below_set6 HBn.out _ (Nat.le_refl _) _ _ _ _ _ _ | exact below_drew (below_set6 HBn.out _ (Nat.le_refl _) _ _ _ _ _ _)⟩
            · skip
              have t1 : (k.toList == ([119, 111, 114, 100] : List UInt8)) = false := by rw [str_iff]; exact decide_eq_false hk1
              by_cases hk2 : k = bPower
              · skip
                have t2 : (k.toList == ([112, 111, 119, 101, 114] : List UInt8)) = true := by rw [str_iff]; exact decide_eq_true hk2
                have h6 : nl = 6 := by rw [HKn.out, hk2]; rfl
                have D0 : Aside0 (w.cell? ⟨b0, o0 + 3, none⟩ = some (.string (l2.getD 0 eS))) := ⟨HC.out 3 (by omega)⟩
                have i3 : (3 : Int) < (nl : Int) := by omega
                have K0 : Aside0 (TextOk (l2.getD 0 eS)) := ⟨by rw [List.getD_eq_getElem?_getD, List.getElem?_eq_getElem (by have := HL2.out; omega)]; exact HK.out _ (by simp)⟩
                have D1 : Aside0 (w.cell? ⟨b0, o0 + 4, none⟩ = some (.string (l2.getD 1 eS))) := ⟨HC.out 4 (by omega)⟩
                have i4 : (4 : Int) < (nl : Int) := by omega
                have K1 : Aside0 (TextOk (l2.getD 1 eS)) := ⟨by rw [List.getD_eq_getElem?_getD, List.getElem?_eq_getElem (by have := HL2.out; omega)]; exact HK.out _ (by simp)⟩
                have hr := HR2.out
                rw [if_neg hk1, if_pos hk2, ← show z = l2.getD 2 eS from by rw [HZ.out, show mn = 2 by omega], HSg.out] at hr
                have HR3 := Aside0.mk hr
                clear hr
                obtain ⟨d0, hd0⟩ : ∃ x, l2.getD 0 eS = x := ⟨_, rfl⟩
                obtain ⟨d1, hd1⟩ : ∃ x, l2.getD 1 eS = x := ⟨_, rfl⟩
                rw [hd0] at D0 K0 HR3
                rw [hd1] at D1 K1 HR3
                clear hd0
                clear hd1
                obtain ⟨sm, hsm⟩ : ∃ x, someK d1 = x := ⟨_, rfl⟩
                rw [hsm] at HR3
                have HSm := Aside0.mk hsm
                clear hsm h6
                have hbg : b0 ≠ g10 := by have := World.block_lt_of_cell? w ⟨b0, o0, none⟩ HX0.out; dsimp only at this; omega
                have Hk1 := Aside0.mk hk1
                clear hk1
                have Hk2 := Aside0.mk hk2
                clear hk2
                have hx3 := pw_cell_below HB12.out D0.out
                clear i1 i2 p1 p2 h0n hn4 hn7 hm hc hmm
                obtain ⟨ov, hv⟩ : ∃ x, atoiV d0 = x := ⟨_, rfl⟩
                have HV := Aside0.mk hv
                clear hv
                by_cases q1 : s1 = 1
                · skip
                  have q1' : ((s1 : Int) == 1) = true := by rw [beq_iff_eq]; omega
                  by_cases q2 : s2 = 0
                  · skip
                    have q2' : ((s2 : Int) == 0) = true := by rw [beq_iff_eq]; omega
                    cases ov with
                    | none =>
                      have hp : powK d0 = false := by unfold powK; rw [HV.out]
                      have hr := HR3.out
                      rw [hp, if_neg (fun h => by cases h.2.2)] at hr
                      have Hr := Aside0.mk hr
                      clear hr hp q1 q2
                      go_wp2_with fail
                      refine (atoi_bad d0 HV.out (by have := K0.out.size; omega) _ (HG.out.below HB12.out)).mono ?_
                      rintro e w13 ⟨vb, Nb, rfl, hb⟩
                      have HBt := Aside0.mk (below_step HB12.out hb)
                      have BKt := Aside0.mk (blk_below BK12.out hb)
                      have BXt := Aside0.mk (blk_below BX12.out hb)
                      clear hb hx3
                      go_wp2_with fail
                      refine start_ (n := 11) (S := fun w' => w'.cell? ⟨b0, o0 + 3, none⟩ = some (.string d0) ∧ w'.cell? ⟨b0, o0 + 4, none⟩ = some (.string d1)) (ds := [10]) #[false, false, false, false, false, false, false, false, false, false, false] (by kernel_rfl) rfl rfl ⟨pw_cell_below (below_drew HBt.out) D0.out, pw_cell_below (below_drew HBt.out) D1.out⟩ (fun hHeld => ?_)
                      refine pure_ (i := 0) (N := some 105) (v := ?_) (a' := ?_) #[true, false, false, false, false, false, false, false, false, false, false] rfl rfl (by kernel_rfl) (fun _ _ _ h => h) (Or.inl ⟨by rfl, ?_⟩) ?_ ?_
                      rotate_left
                      · intro w'
                        go_simp
                        with_reducible rfl
                      rotate_left
                      · simp only [Act.put, List.setIfInBounds_toArray, List.set_cons_zero, List.set_cons_succ, i64_w, i32_w]
                        rfl
                      refine pure_ (i := 1) (N := some 106) (v := ?_) (a' := ?_) #[true, true, false, false, false, false, false, false, false, false, false] rfl rfl (by kernel_rfl) (fun _ _ _ h => h) (Or.inl ⟨by rfl, ?_⟩) ?_ ?_
                      rotate_left
                      · intro w'
                        go_simp
                        with_reducible rfl
                      rotate_left
                      · simp only [Act.put, List.setIfInBounds_toArray, List.set_cons_zero, List.set_cons_succ, i64_w, i32_w]
                        rfl
                      refine pure_ (i := 3) (N := some 108) (v := ?_) (a' := ?_) #[true, true, false, true, false, false, false, false, false, false, false] rfl rfl (by kernel_rfl) (fun _ _ _ h => h) (Or.inl ⟨by rfl, ?_⟩) ?_ ?_
                      rotate_left
                      · intro w'
                        go_simp
                        with_reducible rfl
                      rotate_left
                      · simp only [Act.put, List.setIfInBounds_toArray, List.set_cons_zero, List.set_cons_succ, i64_w, i32_w]
                        rfl
                      refine pure_ (i := 4) (N := some 109) (v := ?_) (a' := ?_) #[true, true, false, true, true, false, false, false, false, false, false] rfl rfl (by kernel_rfl) (fun _ _ _ h => h) (Or.inl ⟨by rfl, ?_⟩) ?_ ?_
                      rotate_left
                      · intro w'
                        go_simp
                        with_reducible rfl
                      rotate_left
                      · simp only [Act.put, List.setIfInBounds_toArray, List.set_cons_zero, List.set_cons_succ, i64_w, i32_w]
                        rfl
                      refine take_ (i := 2) (N := some 107) (v := ?_) (a' := ?_) #[true, true, true, true, true, false, false, false, false, false, false] rfl rfl (by kernel_rfl) (fun _ _ _ h => h) (Or.inl ⟨by rfl, ?_⟩) hHeld ?_ ?_
                      rotate_left
                      · rintro w' ⟨s0, s1⟩
                        go_simp
                        with_reducible rfl
                      rotate_left
                      · simp only [Act.put, List.setIfInBounds_toArray, List.set_cons_zero, List.set_cons_succ, i64_w, i32_w]
                        rfl
                      refine pure_ (i := 7) (N := some 112) (v := ?_) (a' := ?_) #[true, true, true, true, true, false, false, true, false, false, false] rfl rfl (by kernel_rfl) (fun _ _ _ h => h) (Or.inl ⟨by rfl, ?_⟩) ?_ ?_
                      rotate_left
                      · intro w'
                        go_simp
                        with_reducible rfl
                      rotate_left
                      · simp only [Act.put, List.setIfInBounds_toArray, List.set_cons_zero, List.set_cons_succ, i64_w, i32_w]
                        rfl
                      refine take_ (i := 5) (N := some 110) (v := ?_) (a' := ?_) #[true, true, true, true, true, true, false, true, false, false, false] rfl rfl (by kernel_rfl) (fun _ _ _ h => h) (Or.inl ⟨by rfl, ?_⟩) hHeld ?_ ?_
                      rotate_left
                      · rintro w' ⟨s0, s1⟩
                        go_simp
                        with_reducible rfl
                      rotate_left
                      · simp only [Act.put, List.setIfInBounds_toArray, List.set_cons_zero, List.set_cons_succ, i64_w, i32_w]
                        rfl
                      refine one_ (i := 6) (N := some 111) #[true, true, true, true, true, true, true, true, false, false, false] rfl rfl (by kernel_rfl) (by decide) (fun K hK => ?_)
                      refine goes_ Tryz.func44 (by kernel_rfl) rfl #[.string d1] (by rfl) rfl rfl (by simp only [List.map_toArray, List.map_cons, List.map_nil]; rfl) ?_
                      with_reducible refine (someK_any d1 sm _ (HG.out.below (below_drew HBt.out)) K1.out HSm.out).mono ?_
                      rintro e w14 ⟨rfl, hb14⟩
                      refine ⟨_, rfl, ?_⟩
                      have HB14 := Aside0.mk (below_step (below_drew HBt.out) hb14)
                      have BK14 := Aside0.mk (blk_below (blk_drew BKt.out) hb14)
                      have BX14 := Aside0.mk (blk_below (blk_drew BXt.out) hb14)
                      clear hb14
                      have hy3 := (blk_cell BK14.out 3).trans (rfl : _ = some (Value.string ⟨#[]⟩))
                      have hg3 := blk_frozen BK14.out 3
                      have hy4 := (blk_cell BK14.out 4).trans (rfl : _ = some (Value.string ⟨#[]⟩))
                      have hg4 := blk_frozen BK14.out 4
                      refine hK.out _ _ ⟨pw_cell_below HB14.out D0.out, pw_cell_below HB14.out D1.out⟩ (fun hHeld => ?_)
                      clear hK K
                      refine norm_ (a' := ?_) ?_ ?_
                      rotate_left
                      · show Act.put _ (some 111) _ = _
                        simp only [Act.put, List.setIfInBounds_toArray, List.set_cons_zero, List.set_cons_succ, i64_w, i32_w]
                        rfl
                      refine one_ (i := 8) (N := none) #[true, true, true, true, true, true, true, true, true, false, false] rfl rfl (by kernel_rfl) (by decide) (fun K hK => ?_)
                      refine skip_ (w1 := ?_) (by rfl) rfl ?_ ?_
                      rotate_left
                      · go_simp
                        rfl
                      refine hK.out _ _ ⟨(cell_far hbg _).trans (pw_cell_below HB14.out D0.out), (cell_far hbg _).trans (pw_cell_below HB14.out D1.out)⟩ (fun hHeld => ?_)
                      clear hK K
                      refine pure_ (i := 9) (N := some 113) (v := ?_) (a' := ?_) #[true, true, true, true, true, true, true, true, true, true, false] rfl rfl (by kernel_rfl) (fun _ _ _ h => h) (Or.inl ⟨by rfl, ?_⟩) ?_ ?_
                      rotate_left
                      · intro w'
                        go_simp
                        with_reducible rfl
                      rotate_left
                      · simp only [Act.put, List.setIfInBounds_toArray, List.set_cons_zero, List.set_cons_succ, i64_w, i32_w]
                        rfl
                      refine last_ (i := 10) (N := none) #[true, true, true, true, true, true, true, true, true, true, true] rfl rfl (by kernel_rfl) (by decide) (fun K hK => ?_)
                      refine skip_ (w1 := ?_) (by rfl) rfl ?_ ?_
                      rotate_left
                      · go_simp
                        rfl
                      refine hK.out _ _ ?_
                      clear hK K
                      refine done_ (by kernel_rfl) ?_
                      have HBn : Aside0 (Below w.heap.size w ((w14.setCell ⟨g10, 3, none⟩ (.string d0)).setCell ⟨g10, 4, none⟩ (.string sm))) := ⟨(Below.setCell (Below.setCell HB14.out (Nat.le_of_lt hgw) _) (Nat.le_of_lt hgw) _)⟩
                      have BKn : Aside0 (((w14.setCell ⟨g10, 3, none⟩ (.string d0)).setCell ⟨g10, 4, none⟩ (.string sm)).heap[g10]? = some (.cells #[.string k, .string a, .string b, .string d0, .string sm, .string eS] 32 (0, 0))) := ⟨(blk_put (blk_put BK14.out 3 _ rfl) 4 _ rfl)⟩
                      have BXn : Aside0 (((w14.setCell ⟨g10, 3, none⟩ (.string d0)).setCell ⟨g10, 4, none⟩ (.string sm)).heap[w.heap.size]? = some (.cells #[.string eS, .string eS, .string eS, .string eS, .string eS, .string eS] 32 (0, 0))) := ⟨(blk_far (blk_far BX14.out (Nat.ne_of_lt hgw) _) (Nat.ne_of_lt hgw) _)⟩
                      generalize ((w14.setCell ⟨g10, 3, none⟩ (.string d0)).setCell ⟨g10, 4, none⟩ (.string sm)) = w15 at HBn BKn BXn ⊢
                      clear hy3 hy4 hg3 hg4 hx0
                      have hr := Hr.out
                      go_wp2_with fail
                      refine start_ (n := 29) (S := fun w' => w'.cell? ⟨g10, 0, none⟩ = some (.string k) ∧ w'.cell? ⟨g10, 1, none⟩ = some (.string a) ∧ w'.cell? ⟨g10, 2, none⟩ = some (.string b) ∧ w'.cell? ⟨g10, 3, none⟩ = some (.string d0) ∧ w'.cell? ⟨g10, 4, none⟩ = some (.string sm) ∧ w'.cell? ⟨g10, 5, none⟩ = some (.string eS) ∧ w'.cell? ⟨b0, o0 + 3, none⟩ = some (.string d0)) (ds := [27]) #[false, false, false, false, false, false, false, false, false, false, false, false, false, false, false, false, false, false, false, false, false, false, false, false, false, false, false, false, false] (by kernel_rfl) rfl rfl ⟨(blk_cell (blk_drew BKn.out) 0).trans rfl, (blk_cell (blk_drew BKn.out) 1).trans rfl, (blk_cell (blk_drew BKn.out) 2).trans rfl, (blk_cell (blk_drew BKn.out) 3).trans rfl, (blk_cell (blk_drew BKn.out) 4).trans rfl, (blk_cell (blk_drew BKn.out) 5).trans rfl, pw_cell_below (below_drew HBn.out) D0.out⟩ (fun hHeld => ?_)
                      refine pure_ (i := 1) (N := some 115) (v := ?_) (a' := ?_) #[false, true, false, false, false, false, false, false, false, false, false, false, false, false, false, false, false, false, false, false, false, false, false, false, false, false, false, false, false] rfl rfl (by kernel_rfl) (fun _ _ _ h => h) (Or.inl ⟨by rfl, ?_⟩) ?_ ?_
                      rotate_left
                      · intro w'
                        go_simp
                        with_reducible rfl
                      rotate_left
                      · simp only [Act.put, List.setIfInBounds_toArray, List.set_cons_zero, List.set_cons_succ, i64_w, i32_w]
                        rfl
                      refine pure_ (i := 2) (N := some 116) (v := ?_) (a' := ?_) #[false, true, true, false, false, false, false, false, false, false, false, false, false, false, false, false, false, false, false, false, false, false, false, false, false, false, false, false, false] rfl rfl (by kernel_rfl) (fun _ _ _ h => h) (Or.inl ⟨by rfl, ?_⟩) ?_ ?_
                      rotate_left
                      · intro w'
                        go_simp
                        with_reducible rfl
                      rotate_left
                      · simp only [Act.put, List.setIfInBounds_toArray, List.set_cons_zero, List.set_cons_succ, i64_w, i32_w]
                        rfl
                      refine pure_ (i := 3) (N := some 117) (v := ?_) (a' := ?_) #[false, true, true, true, false, false, false, false, false, false, false, false, false, false, false, false, false, false, false, false, false, false, false, false, false, false, false, false, false] rfl rfl (by kernel_rfl) (fun _ _ _ h => h) (Or.inl ⟨by rfl, ?_⟩) ?_ ?_
                      rotate_left
                      · intro w'
                        go_simp
                        with_reducible rfl
                      rotate_left
                      · simp only [Act.put, List.setIfInBounds_toArray, List.set_cons_zero, List.set_cons_succ, i64_w, i32_w]
                        rfl
                      refine pure_ (i := 4) (N := some 118) (v := ?_) (a' := ?_) #[false, true, true, true, true, false, false, false, false, false, false, false, false, false, false, false, false, false, false, false, false, false, false, false, false, false, false, false, false] rfl rfl (by kernel_rfl) (fun _ _ _ h => h) (Or.inl ⟨by rfl, ?_⟩) ?_ ?_
                      rotate_left
                      · intro w'
                        go_simp
                        with_reducible rfl
                      rotate_left
                      · simp only [Act.put, List.setIfInBounds_toArray, List.set_cons_zero, List.set_cons_succ, i64_w, i32_w]
                        rfl
                      refine pure_ (i := 5) (N := some 119) (v := ?_) (a' := ?_) #[false, true, true, true, true, true, false, false, false, false, false, false, false, false, false, false, false, false, false, false, false, false, false, false, false, false, false, false, false] rfl rfl (by kernel_rfl) (fun _ _ _ h => h) (Or.inl ⟨by rfl, ?_⟩) ?_ ?_
                      rotate_left
                      · intro w'
                        go_simp
                        with_reducible rfl
                      rotate_left
                      · simp only [Act.put, List.setIfInBounds_toArray, List.set_cons_zero, List.set_cons_succ, i64_w, i32_w]
                        rfl
                      refine pure_ (i := 6) (N := some 120) (v := ?_) (a' := ?_) #[false, true, true, true, true, true, true, false, false, false, false, false, false, false, false, false, false, false, false, false, false, false, false, false, false, false, false, false, false] rfl rfl (by kernel_rfl) (fun _ _ _ h => h) (Or.inl ⟨by rfl, ?_⟩) ?_ ?_
                      rotate_left
                      · intro w'
                        go_simp
                        with_reducible rfl
                      rotate_left
                      · simp only [Act.put, List.setIfInBounds_toArray, List.set_cons_zero, List.set_cons_succ, i64_w, i32_w]
                        rfl
                      refine pure_ (i := 7) (N := some 121) (v := ?_) (a' := ?_) #[false, true, true, true, true, true, true, true, false, false, false, false, false, false, false, false, false, false, false, false, false, false, false, false, false, false, false, false, false] rfl rfl (by kernel_rfl) (fun _ _ _ h => h) (Or.inl ⟨by rfl, ?_⟩) ?_ ?_
                      rotate_left
                      · intro w'
                        go_simp
                        with_reducible rfl
                      rotate_left
                      · simp only [Act.put, List.setIfInBounds_toArray, List.set_cons_zero, List.set_cons_succ, i64_w, i32_w]
                        rfl
                      refine pure_ (i := 8) (N := some 122) (v := ?_) (a' := ?_) #[false, true, true, true, true, true, true, true, true, false, false, false, false, false, false, false, false, false, false, false, false, false, false, false, false, false, false, false, false] rfl rfl (by kernel_rfl) (fun _ _ _ h => h) (Or.inl ⟨by rfl, ?_⟩) ?_ ?_
                      rotate_left
                      · intro w'
                        go_simp
                        with_reducible rfl
                      rotate_left
                      · simp only [Act.put, List.setIfInBounds_toArray, List.set_cons_zero, List.set_cons_succ, i64_w, i32_w]
                        rfl
                      refine pure_ (i := 9) (N := some 123) (v := ?_) (a' := ?_) #[false, true, true, true, true, true, true, true, true, true, false, false, false, false, false, false, false, false, false, false, false, false, false, false, false, false, false, false, false] rfl rfl (by kernel_rfl) (fun _ _ _ h => h) (Or.inl ⟨by rfl, ?_⟩) ?_ ?_
                      rotate_left
                      · intro w'
                        go_simp
                        with_reducible rfl
                      rotate_left
                      · simp only [Act.put, List.setIfInBounds_toArray, List.set_cons_zero, List.set_cons_succ, i64_w, i32_w]
                        rfl
                      refine pure_ (i := 10) (N := some 124) (v := ?_) (a' := ?_) #[false, true, true, true, true, true, true, true, true, true, true, false, false, false, false, false, false, false, false, false, false, false, false, false, false, false, false, false, false] rfl rfl (by kernel_rfl) (fun _ _ _ h => h) (Or.inl ⟨by rfl, ?_⟩) ?_ ?_
                      rotate_left
                      · intro w'
                        go_simp
                        with_reducible rfl
                      rotate_left
                      · simp only [Act.put, List.setIfInBounds_toArray, List.set_cons_zero, List.set_cons_succ, i64_w, i32_w]
                        rfl
                      refine pure_ (i := 11) (N := some 125) (v := ?_) (a' := ?_) #[false, true, true, true, true, true, true, true, true, true, true, true, false, false, false, false, false, false, false, false, false, false, false, false, false, false, false, false, false] rfl rfl (by kernel_rfl) (fun _ _ _ h => h) (Or.inl ⟨by rfl, ?_⟩) ?_ ?_
                      rotate_left
                      · intro w'
                        go_simp
                        with_reducible rfl
                      rotate_left
                      · simp only [Act.put, List.setIfInBounds_toArray, List.set_cons_zero, List.set_cons_succ, i64_w, i32_w]
                        rfl
                      refine pure_ (i := 12) (N := some 126) (v := undef) (a' := ?_) #[false, true, true, true, true, true, true, true, true, true, true, true, true, false, false, false, false, false, false, false, false, false, false, false, false, false, false, false, false] rfl rfl (by kernel_rfl) (fun _ _ _ h => h) (Or.inr ⟨by rfl, rfl⟩) ?_ ?_
                      rotate_left
                      · simp only [Act.put, List.setIfInBounds_toArray, List.set_cons_zero, List.set_cons_succ, i64_w, i32_w]
                        rfl
                      refine pure_ (i := 13) (N := some 127) (v := undef) (a' := ?_) #[false, true, true, true, true, true, true, true, true, true, true, true, true, true, false, false, false, false, false, false, false, false, false, false, false, false, false, false, false] rfl rfl (by kernel_rfl) (fun _ _ _ h => h) (Or.inr ⟨by rfl, rfl⟩) ?_ ?_
                      rotate_left
                      · simp only [Act.put, List.setIfInBounds_toArray, List.set_cons_zero, List.set_cons_succ, i64_w, i32_w]
                        rfl
                      refine pure_ (i := 14) (N := some 128) (v := undef) (a' := ?_) #[false, true, true, true, true, true, true, true, true, true, true, true, true, true, true, false, false, false, false, false, false, false, false, false, false, false, false, false, false] rfl rfl (by kernel_rfl) (fun _ _ _ h => h) (Or.inr ⟨by rfl, rfl⟩) ?_ ?_
                      rotate_left
                      · simp only [Act.put, List.setIfInBounds_toArray, List.set_cons_zero, List.set_cons_succ, i64_w, i32_w]
                        rfl
                      refine pure_ (i := 15) (N := some 129) (v := undef) (a' := ?_) #[false, true, true, true, true, true, true, true, true, true, true, true, true, true, true, true, false, false, false, false, false, false, false, false, false, false, false, false, false] rfl rfl (by kernel_rfl) (fun _ _ _ h => h) (Or.inr ⟨by rfl, rfl⟩) ?_ ?_
                      rotate_left
                      · simp only [Act.put, List.setIfInBounds_toArray, List.set_cons_zero, List.set_cons_succ, i64_w, i32_w]
                        rfl
                      refine pure_ (i := 16) (N := some 130) (v := undef) (a' := ?_) #[false, true, true, true, true, true, true, true, true, true, true, true, true, true, true, true, true, false, false, false, false, false, false, false, false, false, false, false, false] rfl rfl (by kernel_rfl) (fun _ _ _ h => h) (Or.inr ⟨by rfl, rfl⟩) ?_ ?_
                      rotate_left
                      · simp only [Act.put, List.setIfInBounds_toArray, List.set_cons_zero, List.set_cons_succ, i64_w, i32_w]
                        rfl
                      refine pure_ (i := 17) (N := some 131) (v := undef) (a' := ?_) #[false, true, true, true, true, true, true, true, true, true, true, true, true, true, true, true, true, true, false, false, false, false, false, false, false, false, false, false, false] rfl rfl (by kernel_rfl) (fun _ _ _ h => h) (Or.inr ⟨by rfl, rfl⟩) ?_ ?_
                      rotate_left
                      · simp only [Act.put, List.setIfInBounds_toArray, List.set_cons_zero, List.set_cons_succ, i64_w, i32_w]
                        rfl
                      refine pure_ (i := 18) (N := some 132) (v := ?_) (a' := ?_) #[false, true, true, true, true, true, true, true, true, true, true, true, true, true, true, true, true, true, true, false, false, false, false, false, false, false, false, false, false] rfl rfl (by kernel_rfl) (fun _ _ _ h => h) (Or.inl ⟨by rfl, ?_⟩) ?_ ?_
                      rotate_left
                      · intro w'
                        go_simp
                        with_reducible rfl
                      rotate_left
                      · simp only [Act.put, List.setIfInBounds_toArray, List.set_cons_zero, List.set_cons_succ, i64_w, i32_w]
                        rfl
                      refine pure_ (i := 19) (N := some 133) (v := ?_) (a' := ?_) #[false, true, true, true, true, true, true, true, true, true, true, true, true, true, true, true, true, true, true, true, false, false, false, false, false, false, false, false, false] rfl rfl (by kernel_rfl) (fun _ _ _ h => h) (Or.inl ⟨by rfl, ?_⟩) ?_ ?_
                      rotate_left
                      · intro w'
                        go_simp
                        with_reducible rfl
                      rotate_left
                      · simp only [Act.put, List.setIfInBounds_toArray, List.set_cons_zero, List.set_cons_succ, i64_w, i32_w]
                        rfl
                      refine pure_ (i := 20) (N := some 134) (v := undef) (a' := ?_) #[false, true, true, true, true, true, true, true, true, true, true, true, true, true, true, true, true, true, true, true, true, false, false, false, false, false, false, false, false] rfl rfl (by kernel_rfl) (fun _ _ _ h => h) (Or.inr ⟨by rfl, rfl⟩) ?_ ?_
                      rotate_left
                      · simp only [Act.put, List.setIfInBounds_toArray, List.set_cons_zero, List.set_cons_succ, i64_w, i32_w]
                        rfl
                      refine pure_ (i := 21) (N := some 135) (v := undef) (a' := ?_) #[false, true, true, true, true, true, true, true, true, true, true, true, true, true, true, true, true, true, true, true, true, true, false, false, false, false, false, false, false] rfl rfl (by kernel_rfl) (fun _ _ _ h => h) (Or.inr ⟨by rfl, rfl⟩) ?_ ?_
                      rotate_left
                      · simp only [Act.put, List.setIfInBounds_toArray, List.set_cons_zero, List.set_cons_succ, i64_w, i32_w]
                        rfl
                      refine pure_ (i := 22) (N := some 136) (v := ?_) (a' := ?_) #[false, true, true, true, true, true, true, true, true, true, true, true, true, true, true, true, true, true, true, true, true, true, true, false, false, false, false, false, false] rfl rfl (by kernel_rfl) (fun _ _ _ h => h) (Or.inl ⟨by rfl, ?_⟩) ?_ ?_
                      rotate_left
                      · intro w'
                        go_simp
                        with_reducible rfl
                      rotate_left
                      · simp only [Act.put, List.setIfInBounds_toArray, List.set_cons_zero, List.set_cons_succ, i64_w, i32_w]
                        rfl
                      refine pure_ (i := 23) (N := some 137) (v := ?_) (a' := ?_) #[false, true, true, true, true, true, true, true, true, true, true, true, true, true, true, true, true, true, true, true, true, true, true, true, false, false, false, false, false] rfl rfl (by kernel_rfl) (fun _ _ _ h => h) (Or.inl ⟨by rfl, ?_⟩) ?_ ?_
                      rotate_left
                      · intro w'
                        go_simp
                        with_reducible rfl
                      rotate_left
                      · simp only [Act.put, List.setIfInBounds_toArray, List.set_cons_zero, List.set_cons_succ, i64_w, i32_w]
                        rfl
                      refine pure_ (i := 24) (N := some 138) (v := undef) (a' := ?_) #[false, true, true, true, true, true, true, true, true, true, true, true, true, true, true, true, true, true, true, true, true, true, true, true, true, false, false, false, false] rfl rfl (by kernel_rfl) (fun _ _ _ h => h) (Or.inr ⟨by rfl, rfl⟩) ?_ ?_
                      rotate_left
                      · simp only [Act.put, List.setIfInBounds_toArray, List.set_cons_zero, List.set_cons_succ, i64_w, i32_w]
                        rfl
                      refine pure_ (i := 25) (N := some 139) (v := undef) (a' := ?_) #[false, true, true, true, true, true, true, true, true, true, true, true, true, true, true, true, true, true, true, true, true, true, true, true, true, true, false, false, false] rfl rfl (by kernel_rfl) (fun _ _ _ h => h) (Or.inr ⟨by rfl, rfl⟩) ?_ ?_
                      rotate_left
                      · simp only [Act.put, List.setIfInBounds_toArray, List.set_cons_zero, List.set_cons_succ, i64_w, i32_w]
                        rfl
                      refine pure_ (i := 26) (N := some 140) (v := ?_) (a' := ?_) #[false, true, true, true, true, true, true, true, true, true, true, true, true, true, true, true, true, true, true, true, true, true, true, true, true, true, true, false, false] rfl rfl (by kernel_rfl) (fun _ _ _ h => h) (Or.inl ⟨by rfl, ?_⟩) ?_ ?_
                      rotate_left
                      · intro w'
                        go_simp
                        with_reducible rfl
                      rotate_left
                      · simp only [Act.put, List.setIfInBounds_toArray, List.set_cons_zero, List.set_cons_succ, i64_w, i32_w]
                        rfl
                      refine take_ (i := 0) (N := some 114) (v := ?_) (a' := ?_) #[true, true, true, true, true, true, true, true, true, true, true, true, true, true, true, true, true, true, true, true, true, true, true, true, true, true, true, false, false] rfl rfl (by kernel_rfl) (fun _ _ _ h => h) (Or.inl ⟨by rfl, ?_⟩) hHeld ?_ ?_
                      rotate_left
                      · rintro w' ⟨s0, s1, s2, s3, s4, s5, s6⟩
                        go_simp
                        with_reducible rfl
                      rotate_left
                      · simp only [Act.put, List.setIfInBounds_toArray, List.set_cons_zero, List.set_cons_succ, i64_w, i32_w]
                        rfl
                      refine last_ (i := 27) (N := none) #[true, true, true, true, true, true, true, true, true, true, true, true, true, true, true, true, true, true, true, true, true, true, true, true, true, true, true, true, false] rfl rfl (by kernel_rfl) (by decide) (fun K hK => ?_)
                      have HBm : Aside0 (Below w.heap.size w w15.drew) := ⟨below_drew HBn.out⟩
                      have BXm : Aside0 (w15.drew.heap[w.heap.size]? = some (.cells #[.string eS, .string eS, .string eS, .string eS, .string eS, .string eS] 32 (0, 0))) := ⟨BXn.out⟩
                      generalize w15.drew = w16 at HBm BXm ⊢
                      have hz0 := (blk_cell BXm.out 0).trans (rfl : _ = some (Value.string eS))
                      have hz1 := (blk_cell BXm.out 1).trans (rfl : _ = some (Value.string eS))
                      have hz2 := (blk_cell BXm.out 2).trans (rfl : _ = some (Value.string eS))
                      have hz3 := (blk_cell BXm.out 3).trans (rfl : _ = some (Value.string eS))
                      have hz4 := (blk_cell BXm.out 4).trans (rfl : _ = some (Value.string eS))
                      have hz5 := (blk_cell BXm.out 5).trans (rfl : _ = some (Value.string eS))
                      have hf0 := blk_frozen BXm.out 0
                      have hf1 := blk_frozen BXm.out 1
                      have hf2 := blk_frozen BXm.out 2
                      have hf3 := blk_frozen BXm.out 3
                      have hf4 := blk_frozen BXm.out 4
                      have hf5 := blk_frozen BXm.out 5
                      refine skip_ (w1 := ?_) (by rfl) rfl ?_ ?_
                      rotate_left
                      · go_simp
                        rfl
                      refine hK.out _ _ ?_
                      clear hK K
                      refine pure_ (i := 28) (N := some 3) (v := ?_) (a' := ?_) #[true, true, true, true, true, true, true, true, true, true, true, true, true, true, true, true, true, true, true, true, true, true, true, true, true, true, true, true, true] rfl rfl (by kernel_rfl) (fun _ _ _ h => h) (Or.inl ⟨by rfl, ?_⟩) ?_ ?_
                      rotate_left
                      · intro w'
                        go_simp
                        with_reducible rfl
                      rotate_left
                      · simp only [Act.put, List.setIfInBounds_toArray, List.set_cons_zero, List.set_cons_succ, i64_w, i32_w]
                        rfl
                      refine done_ (by kernel_rfl) ?_
                      go_wp2_with fail
                      refine bodyPost_ret (v := encT ⟨k, a, b, d0, sm, eS⟩ false) (by simp [results, Tryz.results33, go_sem, encT, hz0, hz1, hz2, hz3, hz4, hz5]) rfl ?_
                      exact ⟨by rw [← hr]; exact ⟨_, rfl⟩, by first | exact below_set6 HBm.out _ (Nat.le_refl _) _ _ _ _ _ _ | exact below_drew (below_set6 HBm.out _ (Nat.le_refl _) _ _ _ _ _ _)⟩
                    | some v =>
                      have hp : powK d0 = (decide (itoaV v = d0) && decide (2 ≤ v) && decide (v ≤ 15)) := by unfold powK; rw [HV.out]
                      have hr := HR3.out
                      rw [hp] at hr
                      have HR4 := Aside0.mk hr
                      clear hr hp
                      by_cases q3 : itoaV v = d0
                      · skip
                        have q3' : ((itoaV v).toList == d0.toList) = true := by rw [toList_iff]; exact decide_eq_true q3
                        by_cases q4 : 2 ≤ v
                        · skip
                          by_cases q5 : v ≤ 15
                          · skip
                            have hr := HR4.out
                            rw [decide_eq_true q3, decide_eq_true q4, decide_eq_true q5, if_pos ⟨q1, q2, rfl⟩] at hr
                            have Hr := Aside0.mk hr
                            have Q3 := Aside0.mk q3
                            clear hr q1 q2 q3
                            go_wp2_with fail
                            refine (atoi_ok d0 v HV.out (by have := K0.out.size; omega) _ (HG.out.below HB12.out)).mono ?_
                            rintro e w13 ⟨rfl, hb⟩
                            have HBt := Aside0.mk (below_step HB12.out hb)
                            have BKt := Aside0.mk (blk_below BK12.out hb)
                            have BXt := Aside0.mk (blk_below BX12.out hb)
                            clear hb hx3
                            go_wp2_with fail
                            refine start_ (n := 11) (S := fun w' => w'.cell? ⟨b0, o0 + 3, none⟩ = some (.string d0) ∧ w'.cell? ⟨b0, o0 + 4, none⟩ = some (.string d1)) (ds := [10]) #[false, false, false, false, false, false, false, false, false, false, false] (by kernel_rfl) rfl rfl ⟨pw_cell_below (below_drew HBt.out) D0.out, pw_cell_below (below_drew HBt.out) D1.out⟩ (fun hHeld => ?_)
                            refine pure_ (i := 0) (N := some 105) (v := ?_) (a' := ?_) #[true, false, false, false, false, false, false, false, false, false, false] rfl rfl (by kernel_rfl) (fun _ _ _ h => h) (Or.inl ⟨by rfl, ?_⟩) ?_ ?_
                            rotate_left
                            · intro w'
                              go_simp
                              with_reducible rfl
                            rotate_left
                            · simp only [Act.put, List.setIfInBounds_toArray, List.set_cons_zero, List.set_cons_succ, i64_w, i32_w]
                              rfl
                            refine pure_ (i := 1) (N := some 106) (v := ?_) (a' := ?_) #[true, true, false, false, false, false, false, false, false, false, false] rfl rfl (by kernel_rfl) (fun _ _ _ h => h) (Or.inl ⟨by rfl, ?_⟩) ?_ ?_
                            rotate_left
                            · intro w'
                              go_simp
                              with_reducible rfl
                            rotate_left
                            · simp only [Act.put, List.setIfInBounds_toArray, List.set_cons_zero, List.set_cons_succ, i64_w, i32_w]
                              rfl
                            refine pure_ (i := 3) (N := some 108) (v := ?_) (a' := ?_) #[true, true, false, true, false, false, false, false, false, false, false] rfl rfl (by kernel_rfl) (fun _ _ _ h => h) (Or.inl ⟨by rfl, ?_⟩) ?_ ?_
                            rotate_left
                            · intro w'
                              go_simp
                              with_reducible rfl
                            rotate_left
                            · simp only [Act.put, List.setIfInBounds_toArray, List.set_cons_zero, List.set_cons_succ, i64_w, i32_w]
                              rfl
                            refine pure_ (i := 4) (N := some 109) (v := ?_) (a' := ?_) #[true, true, false, true, true, false, false, false, false, false, false] rfl rfl (by kernel_rfl) (fun _ _ _ h => h) (Or.inl ⟨by rfl, ?_⟩) ?_ ?_
                            rotate_left
                            · intro w'
                              go_simp
                              with_reducible rfl
                            rotate_left
                            · simp only [Act.put, List.setIfInBounds_toArray, List.set_cons_zero, List.set_cons_succ, i64_w, i32_w]
                              rfl
                            refine take_ (i := 2) (N := some 107) (v := ?_) (a' := ?_) #[true, true, true, true, true, false, false, false, false, false, false] rfl rfl (by kernel_rfl) (fun _ _ _ h => h) (Or.inl ⟨by rfl, ?_⟩) hHeld ?_ ?_
                            rotate_left
                            · rintro w' ⟨s0, s1⟩
                              go_simp
                              with_reducible rfl
                            rotate_left
                            · simp only [Act.put, List.setIfInBounds_toArray, List.set_cons_zero, List.set_cons_succ, i64_w, i32_w]
                              rfl
                            refine pure_ (i := 7) (N := some 112) (v := ?_) (a' := ?_) #[true, true, true, true, true, false, false, true, false, false, false] rfl rfl (by kernel_rfl) (fun _ _ _ h => h) (Or.inl ⟨by rfl, ?_⟩) ?_ ?_
                            rotate_left
                            · intro w'
                              go_simp
                              with_reducible rfl
                            rotate_left
                            · simp only [Act.put, List.setIfInBounds_toArray, List.set_cons_zero, List.set_cons_succ, i64_w, i32_w]
                              rfl
                            refine take_ (i := 5) (N := some 110) (v := ?_) (a' := ?_) #[true, true, true, true, true, true, false, true, false, false, false] rfl rfl (by kernel_rfl) (fun _ _ _ h => h) (Or.inl ⟨by rfl, ?_⟩) hHeld ?_ ?_
                            rotate_left
                            · rintro w' ⟨s0, s1⟩
                              go_simp
                              with_reducible rfl
                            rotate_left
                            · simp only [Act.put, List.setIfInBounds_toArray, List.set_cons_zero, List.set_cons_succ, i64_w, i32_w]
                              rfl
                            refine one_ (i := 6) (N := some 111) #[true, true, true, true, true, true, true, true, false, false, false] rfl rfl (by kernel_rfl) (by decide) (fun K hK => ?_)
                            refine goes_ Tryz.func44 (by kernel_rfl) rfl #[.string d1] (by rfl) rfl rfl (by simp only [List.map_toArray, List.map_cons, List.map_nil]; rfl) ?_
                            with_reducible refine (someK_any d1 sm _ (HG.out.below (below_drew HBt.out)) K1.out HSm.out).mono ?_
                            rintro e w14 ⟨rfl, hb14⟩
                            refine ⟨_, rfl, ?_⟩
                            have HB14 := Aside0.mk (below_step (below_drew HBt.out) hb14)
                            have BK14 := Aside0.mk (blk_below (blk_drew BKt.out) hb14)
                            have BX14 := Aside0.mk (blk_below (blk_drew BXt.out) hb14)
                            clear hb14
                            have hy3 := (blk_cell BK14.out 3).trans (rfl : _ = some (Value.string ⟨#[]⟩))
                            have hg3 := blk_frozen BK14.out 3
                            have hy4 := (blk_cell BK14.out 4).trans (rfl : _ = some (Value.string ⟨#[]⟩))
                            have hg4 := blk_frozen BK14.out 4
                            refine hK.out _ _ ⟨pw_cell_below HB14.out D0.out, pw_cell_below HB14.out D1.out⟩ (fun hHeld => ?_)
                            clear hK K
                            refine norm_ (a' := ?_) ?_ ?_
                            rotate_left
                            · show Act.put _ (some 111) _ = _
                              simp only [Act.put, List.setIfInBounds_toArray, List.set_cons_zero, List.set_cons_succ, i64_w, i32_w]
                              rfl
                            refine one_ (i := 8) (N := none) #[true, true, true, true, true, true, true, true, true, false, false] rfl rfl (by kernel_rfl) (by decide) (fun K hK => ?_)
                            refine skip_ (w1 := ?_) (by rfl) rfl ?_ ?_
                            rotate_left
                            · go_simp
                              rfl
                            refine hK.out _ _ ⟨(cell_far hbg _).trans (pw_cell_below HB14.out D0.out), (cell_far hbg _).trans (pw_cell_below HB14.out D1.out)⟩ (fun hHeld => ?_)
                            clear hK K
                            refine pure_ (i := 9) (N := some 113) (v := ?_) (a' := ?_) #[true, true, true, true, true, true, true, true, true, true, false] rfl rfl (by kernel_rfl) (fun _ _ _ h => h) (Or.inl ⟨by rfl, ?_⟩) ?_ ?_
                            rotate_left
                            · intro w'
                              go_simp
                              with_reducible rfl
                            rotate_left
                            · simp only [Act.put, List.setIfInBounds_toArray, List.set_cons_zero, List.set_cons_succ, i64_w, i32_w]
                              rfl
                            refine last_ (i := 10) (N := none) #[true, true, true, true, true, true, true, true, true, true, true] rfl rfl (by kernel_rfl) (by decide) (fun K hK => ?_)
                            refine skip_ (w1 := ?_) (by rfl) rfl ?_ ?_
                            rotate_left
                            · go_simp
                              rfl
                            refine hK.out _ _ ?_
                            clear hK K
                            refine done_ (by kernel_rfl) ?_
                            have HBn : Aside0 (Below w.heap.size w ((w14.setCell ⟨g10, 3, none⟩ (.string d0)).setCell ⟨g10, 4, none⟩ (.string sm))) := ⟨(Below.setCell (Below.setCell HB14.out (Nat.le_of_lt hgw) _) (Nat.le_of_lt hgw) _)⟩
                            have BKn : Aside0 (((w14.setCell ⟨g10, 3, none⟩ (.string d0)).setCell ⟨g10, 4, none⟩ (.string sm)).heap[g10]? = some (.cells #[.string k, .string a, .string b, .string d0, .string sm, .string eS] 32 (0, 0))) := ⟨(blk_put (blk_put BK14.out 3 _ rfl) 4 _ rfl)⟩
                            have BXn : Aside0 (((w14.setCell ⟨g10, 3, none⟩ (.string d0)).setCell ⟨g10, 4, none⟩ (.string sm)).heap[w.heap.size]? = some (.cells #[.string eS, .string eS, .string eS, .string eS, .string eS, .string eS] 32 (0, 0))) := ⟨(blk_far (blk_far BX14.out (Nat.ne_of_lt hgw) _) (Nat.ne_of_lt hgw) _)⟩
                            generalize ((w14.setCell ⟨g10, 3, none⟩ (.string d0)).setCell ⟨g10, 4, none⟩ (.string sm)) = w15 at HBn BKn BXn ⊢
                            clear hy3 hy4 hg3 hg4 hx0
                            have hr := Hr.out
                            go_wp2_with fail
                            refine start_ (n := 29) (S := fun w' => w'.cell? ⟨g10, 0, none⟩ = some (.string k) ∧ w'.cell? ⟨g10, 1, none⟩ = some (.string a) ∧ w'.cell? ⟨g10, 2, none⟩ = some (.string b) ∧ w'.cell? ⟨g10, 3, none⟩ = some (.string d0) ∧ w'.cell? ⟨g10, 4, none⟩ = some (.string sm) ∧ w'.cell? ⟨g10, 5, none⟩ = some (.string eS) ∧ w'.cell? ⟨b0, o0 + 3, none⟩ = some (.string d0)) (ds := [27]) #[false, false, false, false, false, false, false, false, false, false, false, false, false, false, false, false, false, false, false, false, false, false, false, false, false, false, false, false, false] (by kernel_rfl) rfl rfl ⟨(blk_cell (blk_drew BKn.out) 0).trans rfl, (blk_cell (blk_drew BKn.out) 1).trans rfl, (blk_cell (blk_drew BKn.out) 2).trans rfl, (blk_cell (blk_drew BKn.out) 3).trans rfl, (blk_cell (blk_drew BKn.out) 4).trans rfl, (blk_cell (blk_drew BKn.out) 5).trans rfl, pw_cell_below (below_drew HBn.out) D0.out⟩ (fun hHeld => ?_)
                            refine pure_ (i := 1) (N := some 115) (v := ?_) (a' := ?_) #[false, true, false, false, false, false, false, false, false, false, false, false, false, false, false, false, false, false, false, false, false, false, false, false, false, false, false, false, false] rfl rfl (by kernel_rfl) (fun _ _ _ h => h) (Or.inl ⟨by rfl, ?_⟩) ?_ ?_
                            rotate_left
                            · intro w'
                              go_simp
                              with_reducible rfl
                            rotate_left
                            · simp only [Act.put, List.setIfInBounds_toArray, List.set_cons_zero, List.set_cons_succ, i64_w, i32_w]
                              rfl
                            refine pure_ (i := 2) (N := some 116) (v := ?_) (a' := ?_) #[false, true, true, false, false, false, false, false, false, false, false, false, false, false, false, false, false, false, false, false, false, false, false, false, false, false, false, false, false] rfl rfl (by kernel_rfl) (fun _ _ _ h => h) (Or.inl ⟨by rfl, ?_⟩) ?_ ?_
                            rotate_left
                            · intro w'
                              go_simp
                              with_reducible rfl
                            rotate_left
                            · simp only [Act.put, List.setIfInBounds_toArray, List.set_cons_zero, List.set_cons_succ, i64_w, i32_w]
                              rfl
                            refine pure_ (i := 3) (N := some 117) (v := ?_) (a' := ?_) #[false, true, true, true, false, false, false, false, false, false, false, false, false, false, false, false, false, false, false, false, false, false, false, false, false, false, false, false, false] rfl rfl (by kernel_rfl) (fun _ _ _ h => h) (Or.inl ⟨by rfl, ?_⟩) ?_ ?_
                            rotate_left
                            · intro w'
                              go_simp
                              with_reducible rfl
                            rotate_left
                            · simp only [Act.put, List.setIfInBounds_toArray, List.set_cons_zero, List.set_cons_succ, i64_w, i32_w]
                              rfl
                            refine pure_ (i := 4) (N := some 118) (v := ?_) (a' := ?_) #[false, true, true, true, true, false, false, false, false, false, false, false, false, false, false, false, false, false, false, false, false, false, false, false, false, false, false, false, false] rfl rfl (by kernel_rfl) (fun _ _ _ h => h) (Or.inl ⟨by rfl, ?_⟩) ?_ ?_
                            rotate_left
                            · intro w'
                              go_simp
                              with_reducible rfl
                            rotate_left
                            · simp only [Act.put, List.setIfInBounds_toArray, List.set_cons_zero, List.set_cons_succ, i64_w, i32_w]
                              rfl
                            refine pure_ (i := 5) (N := some 119) (v := ?_) (a' := ?_) #[false, true, true, true, true, true, false, false, false, false, false, false, false, false, false, false, false, false, false, false, false, false, false, false, false, false, false, false, false] rfl rfl (by kernel_rfl) (fun _ _ _ h => h) (Or.inl ⟨by rfl, ?_⟩) ?_ ?_
                            rotate_left
                            · intro w'
                              go_simp
                              with_reducible rfl
                            rotate_left
                            · simp only [Act.put, List.setIfInBounds_toArray, List.set_cons_zero, List.set_cons_succ, i64_w, i32_w]
                              rfl
                            refine pure_ (i := 6) (N := some 120) (v := ?_) (a' := ?_) #[false, true, true, true, true, true, true, false, false, false, false, false, false, false, false, false, false, false, false, false, false, false, false, false, false, false, false, false, false] rfl rfl (by kernel_rfl) (fun _ _ _ h => h) (Or.inl ⟨by rfl, ?_⟩) ?_ ?_
                            rotate_left
                            · intro w'
                              go_simp
                              with_reducible rfl
                            rotate_left
                            · simp only [Act.put, List.setIfInBounds_toArray, List.set_cons_zero, List.set_cons_succ, i64_w, i32_w]
                              rfl
                            refine pure_ (i := 7) (N := some 121) (v := ?_) (a' := ?_) #[false, true, true, true, true, true, true, true, false, false, false, false, false, false, false, false, false, false, false, false, false, false, false, false, false, false, false, false, false] rfl rfl (by kernel_rfl) (fun _ _ _ h => h) (Or.inl ⟨by rfl, ?_⟩) ?_ ?_
                            rotate_left
                            · intro w'
                              go_simp
                              with_reducible rfl
                            rotate_left
                            · simp only [Act.put, List.setIfInBounds_toArray, List.set_cons_zero, List.set_cons_succ, i64_w, i32_w]
                              rfl
                            refine pure_ (i := 8) (N := some 122) (v := ?_) (a' := ?_) #[false, true, true, true, true, true, true, true, true, false, false, false, false, false, false, false, false, false, false, false, false, false, false, false, false, false, false, false, false] rfl rfl (by kernel_rfl) (fun _ _ _ h => h) (Or.inl ⟨by rfl, ?_⟩) ?_ ?_
                            rotate_left
                            · intro w'
                              go_simp
                              with_reducible rfl
                            rotate_left
                            · simp only [Act.put, List.setIfInBounds_toArray, List.set_cons_zero, List.set_cons_succ, i64_w, i32_w]
                              rfl
                            refine pure_ (i := 9) (N := some 123) (v := ?_) (a' := ?_) #[false, true, true, true, true, true, true, true, true, true, false, false, false, false, false, false, false, false, false, false, false, false, false, false, false, false, false, false, false] rfl rfl (by kernel_rfl) (fun _ _ _ h => h) (Or.inl ⟨by rfl, ?_⟩) ?_ ?_
                            rotate_left
                            · intro w'
                              go_simp
                              with_reducible rfl
                            rotate_left
                            · simp only [Act.put, List.setIfInBounds_toArray, List.set_cons_zero, List.set_cons_succ, i64_w, i32_w]
                              rfl
                            refine pure_ (i := 10) (N := some 124) (v := ?_) (a' := ?_) #[false, true, true, true, true, true, true, true, true, true, true, false, false, false, false, false, false, false, false, false, false, false, false, false, false, false, false, false, false] rfl rfl (by kernel_rfl) (fun _ _ _ h => h) (Or.inl ⟨by rfl, ?_⟩) ?_ ?_
                            rotate_left
                            · intro w'
                              go_simp
                              with_reducible rfl
                            rotate_left
                            · simp only [Act.put, List.setIfInBounds_toArray, List.set_cons_zero, List.set_cons_succ, i64_w, i32_w]
                              rfl
                            refine pure_ (i := 11) (N := some 125) (v := ?_) (a' := ?_) #[false, true, true, true, true, true, true, true, true, true, true, true, false, false, false, false, false, false, false, false, false, false, false, false, false, false, false, false, false] rfl rfl (by kernel_rfl) (fun _ _ _ h => h) (Or.inl ⟨by rfl, ?_⟩) ?_ ?_
                            rotate_left
                            · intro w'
                              go_simp
                              with_reducible rfl
                            rotate_left
                            · simp only [Act.put, List.setIfInBounds_toArray, List.set_cons_zero, List.set_cons_succ, i64_w, i32_w]
                              rfl
                            refine pure_ (i := 12) (N := some 126) (v := ?_) (a' := ?_) #[false, true, true, true, true, true, true, true, true, true, true, true, true, false, false, false, false, false, false, false, false, false, false, false, false, false, false, false, false] rfl rfl (by kernel_rfl) (fun _ _ _ h => h) (Or.inl ⟨by rfl, ?_⟩) ?_ ?_
                            rotate_left
                            · intro w'
                              go_simp
                              with_reducible rfl
                            rotate_left
                            · simp only [Act.put, List.setIfInBounds_toArray, List.set_cons_zero, List.set_cons_succ, i64_w, i32_w]
                              rfl
                            refine pure_ (i := 14) (N := some 128) (v := ?_) (a' := ?_) #[false, true, true, true, true, true, true, true, true, true, true, true, true, false, true, false, false, false, false, false, false, false, false, false, false, false, false, false, false] rfl rfl (by kernel_rfl) (fun _ _ _ h => h) (Or.inl ⟨by rfl, ?_⟩) ?_ ?_
                            rotate_left
                            · intro w'
                              go_simp
                              with_reducible rfl
                            rotate_left
                            · simp only [Act.put, List.setIfInBounds_toArray, List.set_cons_zero, List.set_cons_succ, i64_w, i32_w]
                              rfl
                            refine pure_ (i := 15) (N := some 129) (v := ?_) (a' := ?_) #[false, true, true, true, true, true, true, true, true, true, true, true, true, false, true, true, false, false, false, false, false, false, false, false, false, false, false, false, false] rfl rfl (by kernel_rfl) (fun _ _ _ h => h) (Or.inl ⟨by rfl, ?_⟩) ?_ ?_
                            rotate_left
                            · intro w'
                              go_simp
                              with_reducible rfl
                            rotate_left
                            · simp only [Act.put, List.setIfInBounds_toArray, List.set_cons_zero, List.set_cons_succ, i64_w, i32_w]
                              rfl
                            refine take_ (i := 0) (N := some 114) (v := ?_) (a' := ?_) #[true, true, true, true, true, true, true, true, true, true, true, true, true, false, true, true, false, false, false, false, false, false, false, false, false, false, false, false, false] rfl rfl (by kernel_rfl) (fun _ _ _ h => h) (Or.inl ⟨by rfl, ?_⟩) hHeld ?_ ?_
                            rotate_left
                            · rintro w' ⟨s0, s1, s2, s3, s4, s5, s6⟩
                              go_simp
                              with_reducible rfl
                            rotate_left
                            · simp only [Act.put, List.setIfInBounds_toArray, List.set_cons_zero, List.set_cons_succ, i64_w, i32_w]
                              rfl
                            refine take_ (i := 16) (N := some 130) (v := ?_) (a' := ?_) #[true, true, true, true, true, true, true, true, true, true, true, true, true, false, true, true, true, false, false, false, false, false, false, false, false, false, false, false, false] rfl rfl (by kernel_rfl) (fun _ _ _ h => h) (Or.inl ⟨by rfl, ?_⟩) hHeld ?_ ?_
                            rotate_left
                            · rintro w' ⟨s0, s1, s2, s3, s4, s5, s6⟩
                              go_simp
                              with_reducible rfl
                            rotate_left
                            · simp only [Act.put, List.setIfInBounds_toArray, List.set_cons_zero, List.set_cons_succ, i64_w, i32_w]
                              rfl
                            refine one_ (i := 13) (N := some 127) #[true, true, true, true, true, true, true, true, true, true, true, true, true, true, true, true, true, false, false, false, false, false, false, false, false, false, false, false, false] rfl rfl (by kernel_rfl) (by decide) (fun K hK => ?_)
                            refine goes_ Tryz.func46 (by kernel_rfl) rfl #[.int .i64 v] (by rfl) rfl rfl (by simp only [List.map_toArray, List.map_cons, List.map_nil]; rfl) ?_
                            with_reducible refine (itoa_any v d0 HV.out _ (HG.out.below (below_drew HBn.out))).mono ?_
                            rintro e w20 ⟨rfl, hb20⟩
                            refine ⟨_, rfl, ?_⟩
                            have HBm := Aside0.mk (below_step (below_drew HBn.out) hb20)
                            have BKm := Aside0.mk (blk_below (blk_drew BKn.out) hb20)
                            have BXm := Aside0.mk (blk_below (blk_drew BXn.out) hb20)
                            clear hb20
                            refine hK.out _ _ ⟨(blk_cell BKm.out 0).trans rfl, (blk_cell BKm.out 1).trans rfl, (blk_cell BKm.out 2).trans rfl, (blk_cell BKm.out 3).trans rfl, (blk_cell BKm.out 4).trans rfl, (blk_cell BKm.out 5).trans rfl, pw_cell_below HBm.out D0.out⟩ (fun hHeld => ?_)
                            clear hK K
                            refine norm_ (a' := ?_) ?_ ?_
                            rotate_left
                            · show Act.put _ (some 127) _ = _
                              simp only [Act.put, List.setIfInBounds_toArray, List.set_cons_zero, List.set_cons_succ, i64_w, i32_w]
                              rfl
                            refine pure_ (i := 17) (N := some 131) (v := ?_) (a' := ?_) #[true, true, true, true, true, true, true, true, true, true, true, true, true, true, true, true, true, true, false, false, false, false, false, false, false, false, false, false, false] rfl rfl (by kernel_rfl) (fun _ _ _ h => h) (Or.inl ⟨by rfl, ?_⟩) ?_ ?_
                            rotate_left
                            · intro w'
                              go_simp
                              with_reducible rfl
                            rotate_left
                            · simp only [Act.put, List.setIfInBounds_toArray, List.set_cons_zero, List.set_cons_succ, i64_w, i32_w]
                              rfl
                            refine pure_ (i := 18) (N := some 132) (v := ?_) (a' := ?_) #[true, true, true, true, true, true, true, true, true, true, true, true, true, true, true, true, true, true, true, false, false, false, false, false, false, false, false, false, false] rfl rfl (by kernel_rfl) (fun _ _ _ h => h) (Or.inl ⟨by rfl, ?_⟩) ?_ ?_
                            rotate_left
                            · intro w'
                              go_simp
                              with_reducible rfl
                            rotate_left
                            · simp only [Act.put, List.setIfInBounds_toArray, List.set_cons_zero, List.set_cons_succ, i64_w, i32_w]
                              rfl
                            refine pure_ (i := 19) (N := some 133) (v := ?_) (a' := ?_) #[true, true, true, true, true, true, true, true, true, true, true, true, true, true, true, true, true, true, true, true, false, false, false, false, false, false, false, false, false] rfl rfl (by kernel_rfl) (fun _ _ _ h => h) (Or.inl ⟨by rfl, ?_⟩) ?_ ?_
                            rotate_left
                            · intro w'
                              go_simp
                              with_reducible rfl
                            rotate_left
                            · simp only [Act.put, List.setIfInBounds_toArray, List.set_cons_zero, List.set_cons_succ, i64_w, i32_w]
                              rfl
                            refine pure_ (i := 20) (N := some 134) (v := ?_) (a' := ?_) #[true, true, true, true, true, true, true, true, true, true, true, true, true, true, true, true, true, true, true, true, true, false, false, false, false, false, false, false, false] rfl rfl (by kernel_rfl) (fun _ _ _ h => h) (Or.inl ⟨by rfl, ?_⟩) ?_ ?_
                            rotate_left
                            · intro w'
                              go_simp
                              with_reducible rfl
                            rotate_left
                            · simp only [Act.put, List.setIfInBounds_toArray, List.set_cons_zero, List.set_cons_succ, i64_w, i32_w]
                              rfl
                            refine pure_ (i := 21) (N := some 135) (v := ?_) (a' := ?_) #[true, true, true, true, true, true, true, true, true, true, true, true, true, true, true, true, true, true, true, true, true, true, false, false, false, false, false, false, false] rfl rfl (by kernel_rfl) (fun _ _ _ h => h) (Or.inl ⟨by rfl, ?_⟩) ?_ ?_
                            rotate_left
                            · intro w'
                              go_simp
                              with_reducible rfl
                            rotate_left
                            · simp only [Act.put, List.setIfInBounds_toArray, List.set_cons_zero, List.set_cons_succ, i64_w, i32_w]
                              rfl
                            refine pure_ (i := 22) (N := some 136) (v := ?_) (a' := ?_) #[true, true, true, true, true, true, true, true, true, true, true, true, true, true, true, true, true, true, true, true, true, true, true, false, false, false, false, false, false] rfl rfl (by kernel_rfl) (fun _ _ _ h => h) (Or.inl ⟨by rfl, ?_⟩) ?_ ?_
                            rotate_left
                            · intro w'
                              go_simp
                              with_reducible rfl
                            rotate_left
                            · simp only [Act.put, List.setIfInBounds_toArray, List.set_cons_zero, List.set_cons_succ, i64_w, i32_w]
                              rfl
                            refine pure_ (i := 23) (N := some 137) (v := ?_) (a' := ?_) #[true, true, true, true, true, true, true, true, true, true, true, true, true, true, true, true, true, true, true, true, true, true, true, true, false, false, false, false, false] rfl rfl (by kernel_rfl) (fun _ _ _ h => h) (Or.inl ⟨by rfl, ?_⟩) ?_ ?_
                            rotate_left
                            · intro w'
                              go_simp
                              with_reducible rfl
                            rotate_left
                            · simp only [Act.put, List.setIfInBounds_toArray, List.set_cons_zero, List.set_cons_succ, i64_w, i32_w]
                              rfl
                            refine pure_ (i := 24) (N := some 138) (v := ?_) (a' := ?_) #[true, true, true, true, true, true, true, true, true, true, true, true, true, true, true, true, true, true, true, true, true, true, true, true, true, false, false, false, false] rfl rfl (by kernel_rfl) (fun _ _ _ h => h) (Or.inl ⟨by rfl, ?_⟩) ?_ ?_
                            rotate_left
                            · intro w'
                              go_simp
                              with_reducible rfl
                            rotate_left
                            · simp only [Act.put, List.setIfInBounds_toArray, List.set_cons_zero, List.set_cons_succ, i64_w, i32_w]
                              rfl
                            refine pure_ (i := 25) (N := some 139) (v := ?_) (a' := ?_) #[true, true, true, true, true, true, true, true, true, true, true, true, true, true, true, true, true, true, true, true, true, true, true, true, true, true, false, false, false] rfl rfl (by kernel_rfl) (fun _ _ _ h => h) (Or.inl ⟨by rfl, ?_⟩) ?_ ?_
                            rotate_left
                            · intro w'
                              go_simp
                              with_reducible rfl
                            rotate_left
                            · simp only [Act.put, List.setIfInBounds_toArray, List.set_cons_zero, List.set_cons_succ, i64_w, i32_w]
                              rfl
                            refine pure_ (i := 26) (N := some 140) (v := ?_) (a' := ?_) #[true, true, true, true, true, true, true, true, true, true, true, true, true, true, true, true, true, true, true, true, true, true, true, true, true, true, true, false, false] rfl rfl (by kernel_rfl) (fun _ _ _ h => h) (Or.inl ⟨by rfl, ?_⟩) ?_ ?_
                            rotate_left
                            · intro w'
                              go_simp
                              with_reducible rfl
                            rotate_left
                            · simp only [Act.put, List.setIfInBounds_toArray, List.set_cons_zero, List.set_cons_succ, i64_w, i32_w]
                              rfl
                            refine last_ (i := 27) (N := none) #[true, true, true, true, true, true, true, true, true, true, true, true, true, true, true, true, true, true, true, true, true, true, true, true, true, true, true, true, false] rfl rfl (by kernel_rfl) (by decide) (fun K hK => ?_)
                            have hz0 := (blk_cell BXm.out 0).trans (rfl : _ = some (Value.string eS))
                            have hz1 := (blk_cell BXm.out 1).trans (rfl : _ = some (Value.string eS))
                            have hz2 := (blk_cell BXm.out 2).trans (rfl : _ = some (Value.string eS))
                            have hz3 := (blk_cell BXm.out 3).trans (rfl : _ = some (Value.string eS))
                            have hz4 := (blk_cell BXm.out 4).trans (rfl : _ = some (Value.string eS))
                            have hz5 := (blk_cell BXm.out 5).trans (rfl : _ = some (Value.string eS))
                            have hf0 := blk_frozen BXm.out 0
                            have hf1 := blk_frozen BXm.out 1
                            have hf2 := blk_frozen BXm.out 2
                            have hf3 := blk_frozen BXm.out 3
                            have hf4 := blk_frozen BXm.out 4
                            have hf5 := blk_frozen BXm.out 5
                            refine skip_ (w1 := ?_) (by rfl) rfl ?_ ?_
                            rotate_left
                            · go_simp
                              rfl
                            refine hK.out _ _ ?_
                            clear hK K
                            refine pure_ (i := 28) (N := some 3) (v := ?_) (a' := ?_) #[true, true, true, true, true, true, true, true, true, true, true, true, true, true, true, true, true, true, true, true, true, true, true, true, true, true, true, true, true] rfl rfl (by kernel_rfl) (fun _ _ _ h => h) (Or.inl ⟨by rfl, ?_⟩) ?_ ?_
                            rotate_left
                            · intro w'
                              go_simp
                              with_reducible rfl
                            rotate_left
                            · simp only [Act.put, List.setIfInBounds_toArray, List.set_cons_zero, List.set_cons_succ, i64_w, i32_w]
                              rfl
                            refine done_ (by kernel_rfl) ?_
                            go_wp2_with fail
                            refine bodyPost_ret (v := encT ⟨k, a, b, d0, sm, eS⟩ true) (by simp [results, Tryz.results33, go_sem, encT, hz0, hz1, hz2, hz3, hz4, hz5]) rfl ?_
                            exact ⟨by rw [← hr]; exact rfl, by first | exact below_set6 HBm.out _ (Nat.le_refl _) _ _ _ _ _ _ | exact below_drew (below_set6 HBm.out _ (Nat.le_refl _) _ _ _ _ _ _)⟩
                          · skip
                            have hr := HR4.out
                            rw [decide_eq_false q5, Bool.and_false, if_neg (fun h => by cases h.2.2)] at hr
                            have Hr := Aside0.mk hr
                            have Q3 := Aside0.mk q3
                            have q5' : decide (v ≤ 15) = false := decide_eq_false q5
                            clear hr q1 q2 q3 q5
                            go_wp2_with fail
                            refine (atoi_ok d0 v HV.out (by have := K0.out.size; omega) _ (HG.out.below HB12.out)).mono ?_
                            rintro e w13 ⟨rfl, hb⟩
                            have HBt := Aside0.mk (below_step HB12.out hb)
                            have BKt := Aside0.mk (blk_below BK12.out hb)
                            have BXt := Aside0.mk (blk_below BX12.out hb)
                            clear hb hx3
                            go_wp2_with fail
                            refine start_ (n := 11) (S := fun w' => w'.cell? ⟨b0, o0 + 3, none⟩ = some (.string d0) ∧ w'.cell? ⟨b0, o0 + 4, none⟩ = some (.string d1)) (ds := [10]) #[false, false, false, false, false, false, false, false, false, false, false] (by kernel_rfl) rfl rfl ⟨pw_cell_below (below_drew HBt.out) D0.out, pw_cell_below (below_drew HBt.out) D1.out⟩ (fun hHeld => ?_)
                            refine pure_ (i := 0) (N := some 105) (v := ?_) (a' := ?_) #[true, false, false, false, false, false, false, false, false, false, false] rfl rfl (by kernel_rfl) (fun _ _ _ h => h) (Or.inl ⟨by rfl, ?_⟩) ?_ ?_
                            rotate_left
                            · intro w'
                              go_simp
                              with_reducible rfl
                            rotate_left
                            · simp only [Act.put, List.setIfInBounds_toArray, List.set_cons_zero, List.set_cons_succ, i64_w, i32_w]
                              rfl
                            refine pure_ (i := 1) (N := some 106) (v := ?_) (a' := ?_) #[true, true, false, false, false, false, false, false, false, false, false] rfl rfl (by kernel_rfl) (fun _ _ _ h => h) (Or.inl ⟨by rfl, ?_⟩) ?_ ?_
                            rotate_left
                            · intro w'
                              go_simp
                              with_reducible rfl
                            rotate_left
                            · simp only [Act.put, List.setIfInBounds_toArray, List.set_cons_zero, List.set_cons_succ, i64_w, i32_w]
                              rfl
                            refine pure_ (i := 3) (N := some 108) (v := ?_) (a' := ?_) #[true, true, false, true, false, false, false, false, false, false, false] rfl rfl (by kernel_rfl) (fun _ _ _ h => h) (Or.inl ⟨by rfl, ?_⟩) ?_ ?_
                            rotate_left
                            · intro w'
                              go_simp
                              with_reducible rfl
                            rotate_left
                            · simp only [Act.put, List.setIfInBounds_toArray, List.set_cons_zero, List.set_cons_succ, i64_w, i32_w]
                              rfl
                            refine pure_ (i := 4) (N := some 109) (v := ?_) (a' := ?_) #[true, true, false, true, true, false, false, false, false, false, false] rfl rfl (by kernel_rfl) (fun _ _ _ h => h) (Or.inl ⟨by rfl, ?_⟩) ?_ ?_
                            rotate_left
                            · intro w'
                              go_simp
                              with_reducible rfl
                            rotate_left
                            · simp only [Act.put, List.setIfInBounds_toArray, List.set_cons_zero, List.set_cons_succ, i64_w, i32_w]
                              rfl
                            refine take_ (i := 2) (N := some 107) (v := ?_) (a' := ?_) #[true, true, true, true, true, false, false, false, false, false, false] rfl rfl (by kernel_rfl) (fun _ _ _ h => h) (Or.inl ⟨by rfl, ?_⟩) hHeld ?_ ?_
                            rotate_left
                            · rintro w' ⟨s0, s1⟩
                              go_simp
                              with_reducible rfl
                            rotate_left
                            · simp only [Act.put, List.setIfInBounds_toArray, List.set_cons_zero, List.set_cons_succ, i64_w, i32_w]
                              rfl
                            refine pure_ (i := 7) (N := some 112) (v := ?_) (a' := ?_) #[true, true, true, true, true, false, false, true, false, false, false] rfl rfl (by kernel_rfl) (fun _ _ _ h => h) (Or.inl ⟨by rfl, ?_⟩) ?_ ?_
                            rotate_left
                            · intro w'
                              go_simp
                              with_reducible rfl
                            rotate_left
                            · simp only [Act.put, List.setIfInBounds_toArray, List.set_cons_zero, List.set_cons_succ, i64_w, i32_w]
                              rfl
                            refine take_ (i := 5) (N := some 110) (v := ?_) (a' := ?_) #[true, true, true, true, true, true, false, true, false, false, false] rfl rfl (by kernel_rfl) (fun _ _ _ h => h) (Or.inl ⟨by rfl, ?_⟩) hHeld ?_ ?_
                            rotate_left
                            · rintro w' ⟨s0, s1⟩
                              go_simp
                              with_reducible rfl
                            rotate_left
                            · simp only [Act.put, List.setIfInBounds_toArray, List.set_cons_zero, List.set_cons_succ, i64_w, i32_w]
                              rfl
                            refine one_ (i := 6) (N := some 111) #[true, true, true, true, true, true, true, true, false, false, false] rfl rfl (by kernel_rfl) (by decide) (fun K hK => ?_)
                            refine goes_ Tryz.func44 (by kernel_rfl) rfl #[.string d1] (by rfl) rfl rfl (by simp only [List.map_toArray, List.map_cons, List.map_nil]; rfl) ?_
                            with_reducible refine (someK_any d1 sm _ (HG.out.below (below_drew HBt.out)) K1.out HSm.out).mono ?_
                            rintro e w14 ⟨rfl, hb14⟩
                            refine ⟨_, rfl, ?_⟩
                            have HB14 := Aside0.mk (below_step (below_drew HBt.out) hb14)
                            have BK14 := Aside0.mk (blk_below (blk_drew BKt.out) hb14)
                            have BX14 := Aside0.mk (blk_below (blk_drew BXt.out) hb14)
                            clear hb14
                            have hy3 := (blk_cell BK14.out 3).trans (rfl : _ = some (Value.string ⟨#[]⟩))
                            have hg3 := blk_frozen BK14.out 3
                            have hy4 := (blk_cell BK14.out 4).trans (rfl : _ = some (Value.string ⟨#[]⟩))
                            have hg4 := blk_frozen BK14.out 4
                            refine hK.out _ _ ⟨pw_cell_below HB14.out D0.out, pw_cell_below HB14.out D1.out⟩ (fun hHeld => ?_)
                            clear hK K
                            refine norm_ (a' := ?_) ?_ ?_
                            rotate_left
                            · show Act.put _ (some 111) _ = _
                              simp only [Act.put, List.setIfInBounds_toArray, List.set_cons_zero, List.set_cons_succ, i64_w, i32_w]
                              rfl
                            refine one_ (i := 8) (N := none) #[true, true, true, true, true, true, true, true, true, false, false] rfl rfl (by kernel_rfl) (by decide) (fun K hK => ?_)
                            refine skip_ (w1 := ?_) (by rfl) rfl ?_ ?_
                            rotate_left
                            · go_simp
                              rfl
                            refine hK.out _ _ ⟨(cell_far hbg _).trans (pw_cell_below HB14.out D0.out), (cell_far hbg _).trans (pw_cell_below HB14.out D1.out)⟩ (fun hHeld => ?_)
                            clear hK K
                            refine pure_ (i := 9) (N := some 113) (v := ?_) (a' := ?_) #[true, true, true, true, true, true, true, true, true, true, false] rfl rfl (by kernel_rfl) (fun _ _ _ h => h) (Or.inl ⟨by rfl, ?_⟩) ?_ ?_
                            rotate_left
                            · intro w'
                              go_simp
                              with_reducible rfl
                            rotate_left
                            · simp only [Act.put, List.setIfInBounds_toArray, List.set_cons_zero, List.set_cons_succ, i64_w, i32_w]
                              rfl
                            refine last_ (i := 10) (N := none) #[true, true, true, true, true, true, true, true, true, true, true] rfl rfl (by kernel_rfl) (by decide) (fun K hK => ?_)
                            refine skip_ (w1 := ?_) (by rfl) rfl ?_ ?_
                            rotate_left
                            · go_simp
                              rfl
                            refine hK.out _ _ ?_
                            clear hK K
                            refine done_ (by kernel_rfl) ?_
                            have HBn : Aside0 (Below w.heap.size w ((w14.setCell ⟨g10, 3, none⟩ (.string d0)).setCell ⟨g10, 4, none⟩ (.string sm))) := ⟨(Below.setCell (Below.setCell HB14.out (Nat.le_of_lt hgw) _) (Nat.le_of_lt hgw) _)⟩
                            have BKn : Aside0 (((w14.setCell ⟨g10, 3, none⟩ (.string d0)).setCell ⟨g10, 4, none⟩ (.string sm)).heap[g10]? = some (.cells #[.string k, .string a, .string b, .string d0, .string sm, .string eS] 32 (0, 0))) := ⟨(blk_put (blk_put BK14.out 3 _ rfl) 4 _ rfl)⟩
                            have BXn : Aside0 (((w14.setCell ⟨g10, 3, none⟩ (.string d0)).setCell ⟨g10, 4, none⟩ (.string sm)).heap[w.heap.size]? = some (.cells #[.string eS, .string eS, .string eS, .string eS, .string eS, .string eS] 32 (0, 0))) := ⟨(blk_far (blk_far BX14.out (Nat.ne_of_lt hgw) _) (Nat.ne_of_lt hgw) _)⟩
                            generalize ((w14.setCell ⟨g10, 3, none⟩ (.string d0)).setCell ⟨g10, 4, none⟩ (.string sm)) = w15 at HBn BKn BXn ⊢
                            clear hy3 hy4 hg3 hg4 hx0
                            have hr := Hr.out
                            go_wp2_with fail
                            refine start_ (n := 29) (S := fun w' => w'.cell? ⟨g10, 0, none⟩ = some (.string k) ∧ w'.cell? ⟨g10, 1, none⟩ = some (.string a) ∧ w'.cell? ⟨g10, 2, none⟩ = some (.string b) ∧ w'.cell? ⟨g10, 3, none⟩ = some (.string d0) ∧ w'.cell? ⟨g10, 4, none⟩ = some (.string sm) ∧ w'.cell? ⟨g10, 5, none⟩ = some (.string eS) ∧ w'.cell? ⟨b0, o0 + 3, none⟩ = some (.string d0)) (ds := [27]) #[false, false, false, false, false, false, false, false, false, false, false, false, false, false, false, false, false, false, false, false, false, false, false, false, false, false, false, false, false] (by kernel_rfl) rfl rfl ⟨(blk_cell (blk_drew BKn.out) 0).trans rfl, (blk_cell (blk_drew BKn.out) 1).trans rfl, (blk_cell (blk_drew BKn.out) 2).trans rfl, (blk_cell (blk_drew BKn.out) 3).trans rfl, (blk_cell (blk_drew BKn.out) 4).trans rfl, (blk_cell (blk_drew BKn.out) 5).trans rfl, pw_cell_below (below_drew HBn.out) D0.out⟩ (fun hHeld => ?_)
                            refine pure_ (i := 1) (N := some 115) (v := ?_) (a' := ?_) #[false, true, false, false, false, false, false, false, false, false, false, false, false, false, false, false, false, false, false, false, false, false, false, false, false, false, false, false, false] rfl rfl (by kernel_rfl) (fun _ _ _ h => h) (Or.inl ⟨by rfl, ?_⟩) ?_ ?_
                            rotate_left
                            · intro w'
                              go_simp
                              with_reducible rfl
                            rotate_left
                            · simp only [Act.put, List.setIfInBounds_toArray, List.set_cons_zero, List.set_cons_succ, i64_w, i32_w]
                              rfl
                            refine pure_ (i := 2) (N := some 116) (v := ?_) (a' := ?_) #[false, true, true, false, false, false, false, false, false, false, false, false, false, false, false, false, false, false, false, false, false, false, false, false, false, false, false, false, false] rfl rfl (by kernel_rfl) (fun _ _ _ h => h) (Or.inl ⟨by rfl, ?_⟩) ?_ ?_
                            rotate_left
                            · intro w'
                              go_simp
                              with_reducible rfl
                            rotate_left
                            · simp only [Act.put, List.setIfInBounds_toArray, List.set_cons_zero, List.set_cons_succ, i64_w, i32_w]
                              rfl
                            refine pure_ (i := 3) (N := some 117) (v := ?_) (a' := ?_) #[false, true, true, true, false, false, false, false, false, false, false, false, false, false, false, false, false, false, false, false, false, false, false, false, false, false, false, false, false] rfl rfl (by kernel_rfl) (fun _ _ _ h => h) (Or.inl ⟨by rfl, ?_⟩) ?_ ?_
                            rotate_left
                            · intro w'
                              go_simp
                              with_reducible rfl
                            rotate_left
                            · simp only [Act.put, List.setIfInBounds_toArray, List.set_cons_zero, List.set_cons_succ, i64_w, i32_w]
                              rfl
                            refine pure_ (i := 4) (N := some 118) (v := ?_) (a' := ?_) #[false, true, true, true, true, false, false, false, false, false, false, false, false, false, false, false, false, false, false, false, false, false, false, false, false, false, false, false, false] rfl rfl (by kernel_rfl) (fun _ _ _ h => h) (Or.inl ⟨by rfl, ?_⟩) ?_ ?_
                            rotate_left
                            · intro w'
                              go_simp
                              with_reducible rfl
                            rotate_left
                            · simp only [Act.put, List.setIfInBounds_toArray, List.set_cons_zero, List.set_cons_succ, i64_w, i32_w]
                              rfl
                            refine pure_ (i := 5) (N := some 119) (v := ?_) (a' := ?_) #[false, true, true, true, true, true, false, false, false, false, false, false, false, false, false, false, false, false, false, false, false, false, false, false, false, false, false, false, false] rfl rfl (by kernel_rfl) (fun _ _ _ h => h) (Or.inl ⟨by rfl, ?_⟩) ?_ ?_
                            rotate_left
                            · intro w'
                              go_simp
                              with_reducible rfl
                            rotate_left
                            · simp only [Act.put, List.setIfInBounds_toArray, List.set_cons_zero, List.set_cons_succ, i64_w, i32_w]
                              rfl
                            refine pure_ (i := 6) (N := some 120) (v := ?_) (a' := ?_) #[false, true, true, true, true, true, true, false, false, false, false, false, false, false, false, false, false, false, false, false, false, false, false, false, false, false, false, false, false] rfl rfl (by kernel_rfl) (fun _ _ _ h => h) (Or.inl ⟨by rfl, ?_⟩) ?_ ?_
                            rotate_left
                            · intro w'
                              go_simp
                              with_reducible rfl
                            rotate_left
                            · simp only [Act.put, List.setIfInBounds_toArray, List.set_cons_zero, List.set_cons_succ, i64_w, i32_w]
                              rfl
                            refine pure_ (i := 7) (N := some 121) (v := ?_) (a' := ?_) #[false, true, true, true, true, true, true, true, false, false, false, false, false, false, false, false, false, false, false, false, false, false, false, false, false, false, false, false, false] rfl rfl (by kernel_rfl) (fun _ _ _ h => h) (Or.inl ⟨by rfl, ?_⟩) ?_ ?_
                            rotate_left
                            · intro w'
                              go_simp
                              with_reducible rfl
                            rotate_left
                            · simp only [Act.put, List.setIfInBounds_toArray, List.set_cons_zero, List.set_cons_succ, i64_w, i32_w]
                              rfl
                            refine pure_ (i := 8) (N := some 122) (v := ?_) (a' := ?_) #[false, true, true, true, true, true, true, true, true, false, false, false, false, false, false, false, false, false, false, false, false, false, false, false, false, false, false, false, false] rfl rfl (by kernel_rfl) (fun _ _ _ h => h) (Or.inl ⟨by rfl, ?_⟩) ?_ ?_
                            rotate_left
                            · intro w'
                              go_simp
                              with_reducible rfl
                            rotate_left
                            · simp only [Act.put, List.setIfInBounds_toArray, List.set_cons_zero, List.set_cons_succ, i64_w, i32_w]
                              rfl
                            refine pure_ (i := 9) (N := some 123) (v := ?_) (a' := ?_) #[false, true, true, true, true, true, true, true, true, true, false, false, false, false, false, false, false, false, false, false, false, false, false, false, false, false, false, false, false] rfl rfl (by kernel_rfl) (fun _ _ _ h => h) (Or.inl ⟨by rfl, ?_⟩) ?_ ?_
                            rotate_left
                            · intro w'
                              go_simp
                              with_reducible rfl
                            rotate_left
                            · simp only [Act.put, List.setIfInBounds_toArray, List.set_cons_zero, List.set_cons_succ, i64_w, i32_w]
                              rfl
                            refine pure_ (i := 10) (N := some 124) (v := ?_) (a' := ?_) #[false, true, true, true, true, true, true, true, true, true, true, false, false, false, false, false, false, false, false, false, false, false, false, false, false, false, false, false, false] rfl rfl (by kernel_rfl) (fun _ _ _ h => h) (Or.inl ⟨by rfl, ?_⟩) ?_ ?_
                            rotate_left
                            · intro w'
                              go_simp
                              with_reducible rfl
                            rotate_left
                            · simp only [Act.put, List.setIfInBounds_toArray, List.set_cons_zero, List.set_cons_succ, i64_w, i32_w]
                              rfl
                            refine pure_ (i := 11) (N := some 125) (v := ?_) (a' := ?_) #[false, true, true, true, true, true, true, true, true, true, true, true, false, false, false, false, false, false, false, false, false, false, false, false, false, false, false, false, false] rfl rfl (by kernel_rfl) (fun _ _ _ h => h) (Or.inl ⟨by rfl, ?_⟩) ?_ ?_
                            rotate_left
                            · intro w'
                              go_simp
                              with_reducible rfl
                            rotate_left
                            · simp only [Act.put, List.setIfInBounds_toArray, List.set_cons_zero, List.set_cons_succ, i64_w, i32_w]
                              rfl
                            refine pure_ (i := 12) (N := some 126) (v := ?_) (a' := ?_) #[false, true, true, true, true, true, true, true, true, true, true, true, true, false, false, false, false, false, false, false, false, false, false, false, false, false, false, false, false] rfl rfl (by kernel_rfl) (fun _ _ _ h => h) (Or.inl ⟨by rfl, ?_⟩) ?_ ?_
                            rotate_left
                            · intro w'
                              go_simp
                              with_reducible rfl
                            rotate_left
                            · simp only [Act.put, List.setIfInBounds_toArray, List.set_cons_zero, List.set_cons_succ, i64_w, i32_w]
                              rfl
                            refine pure_ (i := 14) (N := some 128) (v := ?_) (a' := ?_) #[false, true, true, true, true, true, true, true, true, true, true, true, true, false, true, false, false, false, false, false, false, false, false, false, false, false, false, false, false] rfl rfl (by kernel_rfl) (fun _ _ _ h => h) (Or.inl ⟨by rfl, ?_⟩) ?_ ?_
                            rotate_left
                            · intro w'
                              go_simp
                              with_reducible rfl
                            rotate_left
                            · simp only [Act.put, List.setIfInBounds_toArray, List.set_cons_zero, List.set_cons_succ, i64_w, i32_w]
                              rfl
                            refine pure_ (i := 15) (N := some 129) (v := ?_) (a' := ?_) #[false, true, true, true, true, true, true, true, true, true, true, true, true, false, true, true, false, false, false, false, false, false, false, false, false, false, false, false, false] rfl rfl (by kernel_rfl) (fun _ _ _ h => h) (Or.inl ⟨by rfl, ?_⟩) ?_ ?_
                            rotate_left
                            · intro w'
                              go_simp
                              with_reducible rfl
                            rotate_left
                            · simp only [Act.put, List.setIfInBounds_toArray, List.set_cons_zero, List.set_cons_succ, i64_w, i32_w]
                              rfl
                            refine take_ (i := 0) (N := some 114) (v := ?_) (a' := ?_) #[true, true, true, true, true, true, true, true, true, true, true, true, true, false, true, true, false, false, false, false, false, false, false, false, false, false, false, false, false] rfl rfl (by kernel_rfl) (fun _ _ _ h => h) (Or.inl ⟨by rfl, ?_⟩) hHeld ?_ ?_
                            rotate_left
                            · rintro w' ⟨s0, s1, s2, s3, s4, s5, s6⟩
                              go_simp
                              with_reducible rfl
                            rotate_left
                            · simp only [Act.put, List.setIfInBounds_toArray, List.set_cons_zero, List.set_cons_succ, i64_w, i32_w]
                              rfl
                            refine take_ (i := 16) (N := some 130) (v := ?_) (a' := ?_) #[true, true, true, true, true, true, true, true, true, true, true, true, true, false, true, true, true, false, false, false, false, false, false, false, false, false, false, false, false] rfl rfl (by kernel_rfl) (fun _ _ _ h => h) (Or.inl ⟨by rfl, ?_⟩) hHeld ?_ ?_
                            rotate_left
                            · rintro w' ⟨s0, s1, s2, s3, s4, s5, s6⟩
                              go_simp
                              with_reducible rfl
                            rotate_left
                            · simp only [Act.put, List.setIfInBounds_toArray, List.set_cons_zero, List.set_cons_succ, i64_w, i32_w]
                              rfl
                            refine one_ (i := 13) (N := some 127) #[true, true, true, true, true, true, true, true, true, true, true, true, true, true, true, true, true, false, false, false, false, false, false, false, false, false, false, false, false] rfl rfl (by kernel_rfl) (by decide) (fun K hK => ?_)
                            refine goes_ Tryz.func46 (by kernel_rfl) rfl #[.int .i64 v] (by rfl) rfl rfl (by simp only [List.map_toArray, List.map_cons, List.map_nil]; rfl) ?_
                            with_reducible refine (itoa_any v d0 HV.out _ (HG.out.below (below_drew HBn.out))).mono ?_
                            rintro e w20 ⟨rfl, hb20⟩
                            refine ⟨_, rfl, ?_⟩
                            have HBm := Aside0.mk (below_step (below_drew HBn.out) hb20)
                            have BKm := Aside0.mk (blk_below (blk_drew BKn.out) hb20)
                            have BXm := Aside0.mk (blk_below (blk_drew BXn.out) hb20)
                            clear hb20
                            refine hK.out _ _ ⟨(blk_cell BKm.out 0).trans rfl, (blk_cell BKm.out 1).trans rfl, (blk_cell BKm.out 2).trans rfl, (blk_cell BKm.out 3).trans rfl, (blk_cell BKm.out 4).trans rfl, (blk_cell BKm.out 5).trans rfl, pw_cell_below HBm.out D0.out⟩ (fun hHeld => ?_)
                            clear hK K
                            refine norm_ (a' := ?_) ?_ ?_
                            rotate_left
                            · show Act.put _ (some 127) _ = _
                              simp only [Act.put, List.setIfInBounds_toArray, List.set_cons_zero, List.set_cons_succ, i64_w, i32_w]
                              rfl
                            refine pure_ (i := 17) (N := some 131) (v := ?_) (a' := ?_) #[true, true, true, true, true, true, true, true, true, true, true, true, true, true, true, true, true, true, false, false, false, false, false, false, false, false, false, false, false] rfl rfl (by kernel_rfl) (fun _ _ _ h => h) (Or.inl ⟨by rfl, ?_⟩) ?_ ?_
                            rotate_left
                            · intro w'
                              go_simp
                              with_reducible rfl
                            rotate_left
                            · simp only [Act.put, List.setIfInBounds_toArray, List.set_cons_zero, List.set_cons_succ, i64_w, i32_w]
                              rfl
                            refine pure_ (i := 18) (N := some 132) (v := ?_) (a' := ?_) #[true, true, true, true, true, true, true, true, true, true, true, true, true, true, true, true, true, true, true, false, false, false, false, false, false, false, false, false, false] rfl rfl (by kernel_rfl) (fun _ _ _ h => h) (Or.inl ⟨by rfl, ?_⟩) ?_ ?_
                            rotate_left
                            · intro w'
                              go_simp
                              with_reducible rfl
                            rotate_left
                            · simp only [Act.put, List.setIfInBounds_toArray, List.set_cons_zero, List.set_cons_succ, i64_w, i32_w]
                              rfl
                            refine pure_ (i := 19) (N := some 133) (v := ?_) (a' := ?_) #[true, true, true, true, true, true, true, true, true, true, true, true, true, true, true, true, true, true, true, true, false, false, false, false, false, false, false, false, false] rfl rfl (by kernel_rfl) (fun _ _ _ h => h) (Or.inl ⟨by rfl, ?_⟩) ?_ ?_
                            rotate_left
                            · intro w'
                              go_simp
                              with_reducible rfl
                            rotate_left
                            · simp only [Act.put, List.setIfInBounds_toArray, List.set_cons_zero, List.set_cons_succ, i64_w, i32_w]
                              rfl
                            refine pure_ (i := 20) (N := some 134) (v := ?_) (a' := ?_) #[true, true, true, true, true, true, true, true, true, true, true, true, true, true, true, true, true, true, true, true, true, false, false, false, false, false, false, false, false] rfl rfl (by kernel_rfl) (fun _ _ _ h => h) (Or.inl ⟨by rfl, ?_⟩) ?_ ?_
                            rotate_left
                            · intro w'
                              go_simp
                              with_reducible rfl
                            rotate_left
                            · simp only [Act.put, List.setIfInBounds_toArray, List.set_cons_zero, List.set_cons_succ, i64_w, i32_w]
                              rfl
                            refine pure_ (i := 21) (N := some 135) (v := ?_) (a' := ?_) #[true, true, true, true, true, true, true, true, true, true, true, true, true, true, true, true, true, true, true, true, true, true, false, false, false, false, false, false, false] rfl rfl (by kernel_rfl) (fun _ _ _ h => h) (Or.inl ⟨by rfl, ?_⟩) ?_ ?_
                            rotate_left
                            · intro w'
                              go_simp
                              with_reducible rfl
                            rotate_left
                            · simp only [Act.put, List.setIfInBounds_toArray, List.set_cons_zero, List.set_cons_succ, i64_w, i32_w]
                              rfl
                            refine pure_ (i := 22) (N := some 136) (v := ?_) (a' := ?_) #[true, true, true, true, true, true, true, true, true, true, true, true, true, true, true, true, true, true, true, true, true, true, true, false, false, false, false, false, false] rfl rfl (by kernel_rfl) (fun _ _ _ h => h) (Or.inl ⟨by rfl, ?_⟩) ?_ ?_
                            rotate_left
                            · intro w'
                              go_simp
                              with_reducible rfl
                            rotate_left
                            · simp only [Act.put, List.setIfInBounds_toArray, List.set_cons_zero, List.set_cons_succ, i64_w, i32_w]
                              rfl
                            refine pure_ (i := 23) (N := some 137) (v := ?_) (a' := ?_) #[true, true, true, true, true, true, true, true, true, true, true, true, true, true, true, true, true, true, true, true, true, true, true, true, false, false, false, false, false] rfl rfl (by kernel_rfl) (fun _ _ _ h => h) (Or.inl ⟨by rfl, ?_⟩) ?_ ?_
                            rotate_left
                            · intro w'
                              go_simp
                              with_reducible rfl
                            rotate_left
                            · simp only [Act.put, List.setIfInBounds_toArray, List.set_cons_zero, List.set_cons_succ, i64_w, i32_w]
                              rfl
                            refine pure_ (i := 24) (N := some 138) (v := ?_) (a' := ?_) #[true, true, true, true, true, true, true, true, true, true, true, true, true, true, true, true, true, true, true, true, true, true, true, true, true, false, false, false, false] rfl rfl (by kernel_rfl) (fun _ _ _ h => h) (Or.inl ⟨by rfl, ?_⟩) ?_ ?_
                            rotate_left
                            · intro w'
                              go_simp
                              with_reducible rfl
                            rotate_left
                            · simp only [Act.put, List.setIfInBounds_toArray, List.set_cons_zero, List.set_cons_succ, i64_w, i32_w]
                              rfl
                            refine pure_ (i := 25) (N := some 139) (v := ?_) (a' := ?_) #[true, true, true, true, true, true, true, true, true, true, true, true, true, true, true, true, true, true, true, true, true, true, true, true, true, true, false, false, false] rfl rfl (by kernel_rfl) (fun _ _ _ h => h) (Or.inl ⟨by rfl, ?_⟩) ?_ ?_
                            rotate_left
                            · intro w'
                              go_simp
                              with_reducible rfl
                            rotate_left
                            · simp only [Act.put, List.setIfInBounds_toArray, List.set_cons_zero, List.set_cons_succ, i64_w, i32_w]
                              rfl
                            refine pure_ (i := 26) (N := some 140) (v := ?_) (a' := ?_) #[true, true, true, true, true, true, true, true, true, true, true, true, true, true, true, true, true, true, true, true, true, true, true, true, true, true, true, false, false] rfl rfl (by kernel_rfl) (fun _ _ _ h => h) (Or.inl ⟨by rfl, ?_⟩) ?_ ?_
                            rotate_left
                            · intro w'
                              go_simp
                              with_reducible rfl
                            rotate_left
                            · simp only [Act.put, List.setIfInBounds_toArray, List.set_cons_zero, List.set_cons_succ, i64_w, i32_w]
                              rfl
                            refine last_ (i := 27) (N := none) #[true, true, true, true, true, true, true, true, true, true, true, true, true, true, true, true, true, true, true, true, true, true, true, true, true, true, true, true, false] rfl rfl (by kernel_rfl) (by decide) (fun K hK => ?_)
                            have hz0 := (blk_cell BXm.out 0).trans (rfl : _ = some (Value.string eS))
                            have hz1 := (blk_cell BXm.out 1).trans (rfl : _ = some (Value.string eS))
                            have hz2 := (blk_cell BXm.out 2).trans (rfl : _ = some (Value.string eS))
                            have hz3 := (blk_cell BXm.out 3).trans (rfl : _ = some (Value.string eS))
                            have hz4 := (blk_cell BXm.out 4).trans (rfl : _ = some (Value.string eS))
                            have hz5 := (blk_cell BXm.out 5).trans (rfl : _ = some (Value.string eS))
                            have hf0 := blk_frozen BXm.out 0
                            have hf1 := blk_frozen BXm.out 1
                            have hf2 := blk_frozen BXm.out 2
                            have hf3 := blk_frozen BXm.out 3
                            have hf4 := blk_frozen BXm.out 4
                            have hf5 := blk_frozen BXm.out 5
                            refine skip_ (w1 := ?_) (by rfl) rfl ?_ ?_
                            rotate_left
                            · go_simp
                              rfl
                            refine hK.out _ _ ?_
                            clear hK K
                            refine pure_ (i := 28) (N := some 3) (v := ?_) (a' := ?_) #[true, true, true, true, true, true, true, true, true, true, true, true, true, true, true, true, true, true, true, true, true, true, true, true, true, true, true, true, true] rfl rfl (by kernel_rfl) (fun _ _ _ h => h) (Or.inl ⟨by rfl, ?_⟩) ?_ ?_
                            rotate_left
                            · intro w'
                              go_simp
                              with_reducible rfl
                            rotate_left
                            · simp only [Act.put, List.setIfInBounds_toArray, List.set_cons_zero, List.set_cons_succ, i64_w, i32_w]
                              rfl
                            refine done_ (by kernel_rfl) ?_
                            go_wp2_with fail
                            refine bodyPost_ret (v := encT ⟨k, a, b, d0, sm, eS⟩ false) (by simp [results, Tryz.results33, go_sem, encT, hz0, hz1, hz2, hz3, hz4, hz5]) rfl ?_
                            exact ⟨by rw [← hr]; exact ⟨_, rfl⟩, by first | exact below_set6 HBm.out _ (Nat.le_refl _) _ _ _ _ _ _ | exact below_drew (below_set6 HBm.out _ (Nat.le_refl _) _ _ _ _ _ _)⟩
                        · skip
                          have hr := HR4.out
                          rw [decide_eq_false q4, Bool.and_false, Bool.false_and, if_neg (fun h => by cases h.2.2)] at hr
                          have Hr := Aside0.mk hr
                          have Q3 := Aside0.mk q3
                          have q4' : decide (2 ≤ v) = false := decide_eq_false q4
                          have q4'' : decide (v ≥ 2) = false := decide_eq_false q4
                          clear hr q1 q2 q3 q4
                          go_wp2_with fail
                          refine (atoi_ok d0 v HV.out (by have := K0.out.size; omega) _ (HG.out.below HB12.out)).mono ?_
                          rintro e w13 ⟨rfl, hb⟩
                          have HBt := Aside0.mk (below_step HB12.out hb)
                          have BKt := Aside0.mk (blk_below BK12.out hb)
                          have BXt := Aside0.mk (blk_below BX12.out hb)
                          clear hb hx3
                          go_wp2_with fail
                          refine start_ (n := 11) (S := fun w' => w'.cell? ⟨b0, o0 + 3, none⟩ = some (.string d0) ∧ w'.cell? ⟨b0, o0 + 4, none⟩ = some (.string d1)) (ds := [10]) #[false, false, false, false, false, false, false, false, false, false, false] (by kernel_rfl) rfl rfl ⟨pw_cell_below (below_drew HBt.out) D0.out, pw_cell_below (below_drew HBt.out) D1.out⟩ (fun hHeld => ?_)
                          refine pure_ (i := 0) (N := some 105) (v := ?_) (a' := ?_) #[true, false, false, false, false, false, false, false, false, false, false] rfl rfl (by kernel_rfl) (fun _ _ _ h => h) (Or.inl ⟨by rfl, ?_⟩) ?_ ?_
                          rotate_left
                          · intro w'
                            go_simp
                            with_reducible rfl
                          rotate_left
                          · simp only [Act.put, List.setIfInBounds_toArray, List.set_cons_zero, List.set_cons_succ, i64_w, i32_w]
                            rfl
                          refine pure_ (i := 1) (N := some 106) (v := ?_) (a' := ?_) #[true, true, false, false, false, false, false, false, false, false, false] rfl rfl (by kernel_rfl) (fun _ _ _ h => h) (Or.inl ⟨by rfl, ?_⟩) ?_ ?_
                          rotate_left
                          · intro w'
                            go_simp
                            with_reducible rfl
                          rotate_left
                          · simp only [Act.put, List.setIfInBounds_toArray, List.set_cons_zero, List.set_cons_succ, i64_w, i32_w]
                            rfl
                          refine pure_ (i := 3) (N := some 108) (v := ?_) (a' := ?_) #[true, true, false, true, false, false, false, false, false, false, false] rfl rfl (by kernel_rfl) (fun _ _ _ h => h) (Or.inl ⟨by rfl, ?_⟩) ?_ ?_
                          rotate_left
                          · intro w'
                            go_simp
                            with_reducible rfl
                          rotate_left
                          · simp only [Act.put, List.setIfInBounds_toArray, List.set_cons_zero, List.set_cons_succ, i64_w, i32_w]
                            rfl
                          refine pure_ (i := 4) (N := some 109) (v := ?_) (a' := ?_) #[true, true, false, true, true, false, false, false, false, false, false] rfl rfl (by kernel_rfl) (fun _ _ _ h => h) (Or.inl ⟨by rfl, ?_⟩) ?_ ?_
                          rotate_left
                          · intro w'
                            go_simp
                            with_reducible rfl
                          rotate_left
                          · simp only [Act.put, List.setIfInBounds_toArray, List.set_cons_zero, List.set_cons_succ, i64_w, i32_w]
                            rfl
                          refine take_ (i := 2) (N := some 107) (v := ?_) (a' := ?_) #[true, true, true, true, true, false, false, false, false, false, false] rfl rfl (by kernel_rfl) (fun _ _ _ h => h) (Or.inl ⟨by rfl, ?_⟩) hHeld ?_ ?_
                          rotate_left
                          · rintro w' ⟨s0, s1⟩
                            go_simp
                            with_reducible rfl
                          rotate_left
                          · simp only [Act.put, List.setIfInBounds_toArray, List.set_cons_zero, List.set_cons_succ, i64_w, i32_w]
                            rfl
                          refine pure_ (i := 7) (N := some 112) (v := ?_) (a' := ?_) #[true, true, true, true, true, false, false, true, false, false, false] rfl rfl (by kernel_rfl) (fun _ _ _ h => h) (Or.inl ⟨by rfl, ?_⟩) ?_ ?_
                          rotate_left
                          · intro w'
                            go_simp
                            with_reducible rfl
                          rotate_left
                          · simp only [Act.put, List.setIfInBounds_toArray, List.set_cons_zero, List.set_cons_succ, i64_w, i32_w]
                            rfl
                          refine take_ (i := 5) (N := some 110) (v := ?_) (a' := ?_) #[true, true, true, true, true, true, false, true, false, false, false] rfl rfl (by kernel_rfl) (fun _ _ _ h => h) (Or.inl ⟨by rfl, ?_⟩) hHeld ?_ ?_
                          rotate_left
                          · rintro w' ⟨s0, s1⟩
                            go_simp
                            with_reducible rfl
                          rotate_left
                          · simp only [Act.put, List.setIfInBounds_toArray, List.set_cons_zero, List.set_cons_succ, i64_w, i32_w]
                            rfl
                          refine one_ (i := 6) (N := some 111) #[true, true, true, true, true, true, true, true, false, false, false] rfl rfl (by kernel_rfl) (by decide) (fun K hK => ?_)
                          refine goes_ Tryz.func44 (by kernel_rfl) rfl #[.string d1] (by rfl) rfl rfl (by simp only [List.map_toArray, List.map_cons, List.map_nil]; rfl) ?_
                          with_reducible refine (someK_any d1 sm _ (HG.out.below (below_drew HBt.out)) K1.out HSm.out).mono ?_
                          rintro e w14 ⟨rfl, hb14⟩
                          refine ⟨_, rfl, ?_⟩
                          have HB14 := Aside0.mk (below_step (below_drew HBt.out) hb14)
                          have BK14 := Aside0.mk (blk_below (blk_drew BKt.out) hb14)
                          have BX14 := Aside0.mk (blk_below (blk_drew BXt.out) hb14)
                          clear hb14
                          have hy3 := (blk_cell BK14.out 3).trans (rfl : _ = some (Value.string ⟨#[]⟩))
                          have hg3 := blk_frozen BK14.out 3
                          have hy4 := (blk_cell BK14.out 4).trans (rfl : _ = some (Value.string ⟨#[]⟩))
                          have hg4 := blk_frozen BK14.out 4
                          refine hK.out _ _ ⟨pw_cell_below HB14.out D0.out, pw_cell_below HB14.out D1.out⟩ (fun hHeld => ?_)
                          clear hK K
                          refine norm_ (a' := ?_) ?_ ?_
                          rotate_left
                          · show Act.put _ (some 111) _ = _
                            simp only [Act.put, List.setIfInBounds_toArray, List.set_cons_zero, List.set_cons_succ, i64_w, i32_w]
                            rfl
                          refine one_ (i := 8) (N := none) #[true, true, true, true, true, true, true, true, true, false, false] rfl rfl (by kernel_rfl) (by decide) (fun K hK => ?_)
                          refine skip_ (w1 := ?_) (by rfl) rfl ?_ ?_
                          rotate_left
                          · go_simp
                            rfl
                          refine hK.out _ _ ⟨(cell_far hbg _).trans (pw_cell_below HB14.out D0.out), (cell_far hbg _).trans (pw_cell_below HB14.out D1.out)⟩ (fun hHeld => ?_)
                          clear hK K
                          refine pure_ (i := 9) (N := some 113) (v := ?_) (a' := ?_) #[true, true, true, true, true, true, true, true, true, true, false] rfl rfl (by kernel_rfl) (fun _ _ _ h => h) (Or.inl ⟨by rfl, ?_⟩) ?_ ?_
                          rotate_left
                          · intro w'
                            go_simp
                            with_reducible rfl
                          rotate_left
                          · simp only [Act.put, List.setIfInBounds_toArray, List.set_cons_zero, List.set_cons_succ, i64_w, i32_w]
                            rfl
                          refine last_ (i := 10) (N := none) #[true, true, true, true, true, true, true, true, true, true, true] rfl rfl (by kernel_rfl) (by decide) (fun K hK => ?_)
                          refine skip_ (w1 := ?_) (by rfl) rfl ?_ ?_
                          rotate_left
                          · go_simp
                            rfl
                          refine hK.out _ _ ?_
                          clear hK K
                          refine done_ (by kernel_rfl) ?_
                          have HBn : Aside0 (Below w.heap.size w ((w14.setCell ⟨g10, 3, none⟩ (.string d0)).setCell ⟨g10, 4, none⟩ (.string sm))) := ⟨(Below.setCell (Below.setCell HB14.out (Nat.le_of_lt hgw) _) (Nat.le_of_lt hgw) _)⟩
                          have BKn : Aside0 (((w14.setCell ⟨g10, 3, none⟩ (.string d0)).setCell ⟨g10, 4, none⟩ (.string sm)).heap[g10]? = some (.cells #[.string k, .string a, .string b, .string d0, .string sm, .string eS] 32 (0, 0))) := ⟨(blk_put (blk_put BK14.out 3 _ rfl) 4 _ rfl)⟩
                          have BXn : Aside0 (((w14.setCell ⟨g10, 3, none⟩ (.string d0)).setCell ⟨g10, 4, none⟩ (.string sm)).heap[w.heap.size]? = some (.cells #[.string eS, .string eS, .string eS, .string eS, .string eS, .string eS] 32 (0, 0))) := ⟨(blk_far (blk_far BX14.out (Nat.ne_of_lt hgw) _) (Nat.ne_of_lt hgw) _)⟩
                          generalize ((w14.setCell ⟨g10, 3, none⟩ (.string d0)).setCell ⟨g10, 4, none⟩ (.string sm)) = w15 at HBn BKn BXn ⊢
                          clear hy3 hy4 hg3 hg4 hx0
                          have hr := Hr.out
                          go_wp2_with fail
                          refine start_ (n := 29) (S := fun w' => w'.cell? ⟨g10, 0, none⟩ = some (.string k) ∧ w'.cell? ⟨g10, 1, none⟩ = some (.string a) ∧ w'.cell? ⟨g10, 2, none⟩ = some (.string b) ∧ w'.cell? ⟨g10, 3, none⟩ = some (.string d0) ∧ w'.cell? ⟨g10, 4, none⟩ = some (.string sm) ∧ w'.cell? ⟨g10, 5, none⟩ = some (.string eS) ∧ w'.cell? ⟨b0, o0 + 3, none⟩ = some (.string d0)) (ds := [27]) #[false, false, false, false, false, false, false, false, false, false, false, false, false, false, false, false, false, false, false, false, false, false, false, false, false, false, false, false, false] (by kernel_rfl) rfl rfl ⟨(blk_cell (blk_drew BKn.out) 0).trans rfl, (blk_cell (blk_drew BKn.out) 1).trans rfl, (blk_cell (blk_drew BKn.out) 2).trans rfl, (blk_cell (blk_drew BKn.out) 3).trans rfl, (blk_cell (blk_drew BKn.out) 4).trans rfl, (blk_cell (blk_drew BKn.out) 5).trans rfl, pw_cell_below (below_drew HBn.out) D0.out⟩ (fun hHeld => ?_)
                          refine pure_ (i := 1) (N := some 115) (v := ?_) (a' := ?_) #[false, true, false, false, false, false, false, false, false, false, false, false, false, false, false, false, false, false, false, false, false, false, false, false, false, false, false, false, false] rfl rfl (by kernel_rfl) (fun _ _ _ h => h) (Or.inl ⟨by rfl, ?_⟩) ?_ ?_
                          rotate_left
                          · intro w'
                            go_simp
                            with_reducible rfl
                          rotate_left
                          · simp only [Act.put, List.setIfInBounds_toArray, List.set_cons_zero, List.set_cons_succ, i64_w, i32_w]
                            rfl
                          refine pure_ (i := 2) (N := some 116) (v := ?_) (a' := ?_) #[false, true, true, false, false, false, false, false, false, false, false, false, false, false, false, false, false, false, false, false, false, false, false, false, false, false, false, false, false] rfl rfl (by kernel_rfl) (fun _ _ _ h => h) (Or.inl ⟨by rfl, ?_⟩) ?_ ?_
                          rotate_left
                          · intro w'
                            go_simp
                            with_reducible rfl
                          rotate_left
                          · simp only [Act.put, List.setIfInBounds_toArray, List.set_cons_zero, List.set_cons_succ, i64_w, i32_w]
                            rfl
                          refine pure_ (i := 3) (N := some 117) (v := ?_) (a' := ?_) #[false, true, true, true, false, false, false, false, false, false, false, false, false, false, false, false, false, false, false, false, false, false, false, false, false, false, false, false, false] rfl rfl (by kernel_rfl) (fun _ _ _ h => h) (Or.inl ⟨by rfl, ?_⟩) ?_ ?_
                          rotate_left
                          · intro w'
                            go_simp
                            with_reducible rfl
                          rotate_left
                          · simp only [Act.put, List.setIfInBounds_toArray, List.set_cons_zero, List.set_cons_succ, i64_w, i32_w]
                            rfl
                          refine pure_ (i := 4) (N := some 118) (v := ?_) (a' := ?_) #[false, true, true, true, true, false, false, false, false, false, false, false, false, false, false, false, false, false, false, false, false, false, false, false, false, false, false, false, false] rfl rfl (by kernel_rfl) (fun _ _ _ h => h) (Or.inl ⟨by rfl, ?_⟩) ?_ ?_
                          rotate_left
                          · intro w'
                            go_simp
                            with_reducible rfl
                          rotate_left
                          · simp only [Act.put, List.setIfInBounds_toArray, List.set_cons_zero, List.set_cons_succ, i64_w, i32_w]
                            rfl
                          refine pure_ (i := 5) (N := some 119) (v := ?_) (a' := ?_) #[false, true, true, true, true, true, false, false, false, false, false, false, false, false, false, false, false, false, false, false, false, false, false, false, false, false, false, false, false] rfl rfl (by kernel_rfl) (fun _ _ _ h => h) (Or.inl ⟨by rfl, ?_⟩) ?_ ?_
                          rotate_left
                          · intro w'
                            go_simp
                            with_reducible rfl
                          rotate_left
                          · simp only [Act.put, List.setIfInBounds_toArray, List.set_cons_zero, List.set_cons_succ, i64_w, i32_w]
                            rfl
                          refine pure_ (i := 6) (N := some 120) (v := ?_) (a' := ?_) #[false, true, true, true, true, true, true, false, false, false, false, false, false, false, false, false, false, false, false, false, false, false, false, false, false, false, false, false, false] rfl rfl (by kernel_rfl) (fun _ _ _ h => h) (Or.inl ⟨by rfl, ?_⟩) ?_ ?_
                          rotate_left
                          · intro w'
                            go_simp
                            with_reducible rfl
                          rotate_left
                          · simp only [Act.put, List.setIfInBounds_toArray, List.set_cons_zero, List.set_cons_succ, i64_w, i32_w]
                            rfl
                          refine pure_ (i := 7) (N := some 121) (v := ?_) (a' := ?_) #[false, true, true, true, true, true, true, true, false, false, false, false, false, false, false, false, false, false, false, false, false, false, false, false, false, false, false, false, false] rfl rfl (by kernel_rfl) (fun _ _ _ h => h) (Or.inl ⟨by rfl, ?_⟩) ?_ ?_
                          rotate_left
                          · intro w'
                            go_simp
                            with_reducible rfl
                          rotate_left
                          · simp only [Act.put, List.setIfInBounds_toArray, List.set_cons_zero, List.set_cons_succ, i64_w, i32_w]
                            rfl
                          refine pure_ (i := 8) (N := some 122) (v := ?_) (a' := ?_) #[false, true, true, true, true, true, true, true, true, false, false, false, false, false, false, false, false, false, false, false, false, false, false, false, false, false, false, false, false] rfl rfl (by kernel_rfl) (fun _ _ _ h => h) (Or.inl ⟨by rfl, ?_⟩) ?_ ?_
                          rotate_left
                          · intro w'
                            go_simp
                            with_reducible rfl
                          rotate_left
                          · simp only [Act.put, List.setIfInBounds_toArray, List.set_cons_zero, List.set_cons_succ, i64_w, i32_w]
                            rfl
                          refine pure_ (i := 9) (N := some 123) (v := ?_) (a' := ?_) #[false, true, true, true, true, true, true, true, true, true, false, false, false, false, false, false, false, false, false, false, false, false, false, false, false, false, false, false, false] rfl rfl (by kernel_rfl) (fun _ _ _ h => h) (Or.inl ⟨by rfl, ?_⟩) ?_ ?_
                          rotate_left
                          · intro w'
                            go_simp
                            with_reducible rfl
                          rotate_left
                          · simp only [Act.put, List.setIfInBounds_toArray, List.set_cons_zero, List.set_cons_succ, i64_w, i32_w]
                            rfl
                          refine pure_ (i := 10) (N := some 124) (v := ?_) (a' := ?_) #[false, true, true, true, true, true, true, true, true, true, true, false, false, false, false, false, false, false, false, false, false, false, false, false, false, false, false, false, false] rfl rfl (by kernel_rfl) (fun _ _ _ h => h) (Or.inl ⟨by rfl, ?_⟩) ?_ ?_
                          rotate_left
                          · intro w'
                            go_simp
                            with_reducible rfl
                          rotate_left
                          · simp only [Act.put, List.setIfInBounds_toArray, List.set_cons_zero, List.set_cons_succ, i64_w, i32_w]
                            rfl
                          refine pure_ (i := 11) (N := some 125) (v := ?_) (a' := ?_) #[false, true, true, true, true, true, true, true, true, true, true, true, false, false, false, false, false, false, false, false, false, false, false, false, false, false, false, false, false] rfl rfl (by kernel_rfl) (fun _ _ _ h => h) (Or.inl ⟨by rfl, ?_⟩) ?_ ?_
                          rotate_left
                          · intro w'
                            go_simp
                            with_reducible rfl
                          rotate_left
                          · simp only [Act.put, List.setIfInBounds_toArray, List.set_cons_zero, List.set_cons_succ, i64_w, i32_w]
                            rfl
                          refine pure_ (i := 12) (N := some 126) (v := ?_) (a' := ?_) #[false, true, true, true, true, true, true, true, true, true, true, true, true, false, false, false, false, false, false, false, false, false, false, false, false, false, false, false, false] rfl rfl (by kernel_rfl) (fun _ _ _ h => h) (Or.inl ⟨by rfl, ?_⟩) ?_ ?_
                          rotate_left
                          · intro w'
                            go_simp
                            with_reducible rfl
                          rotate_left
                          · simp only [Act.put, List.setIfInBounds_toArray, List.set_cons_zero, List.set_cons_succ, i64_w, i32_w]
                            rfl
                          refine pure_ (i := 14) (N := some 128) (v := ?_) (a' := ?_) #[false, true, true, true, true, true, true, true, true, true, true, true, true, false, true, false, false, false, false, false, false, false, false, false, false, false, false, false, false] rfl rfl (by kernel_rfl) (fun _ _ _ h => h) (Or.inl ⟨by rfl, ?_⟩) ?_ ?_
                          rotate_left
                          · intro w'
                            go_simp
                            with_reducible rfl
                          rotate_left
                          · simp only [Act.put, List.setIfInBounds_toArray, List.set_cons_zero, List.set_cons_succ, i64_w, i32_w]
                            rfl
                          refine pure_ (i := 15) (N := some 129) (v := ?_) (a' := ?_) #[false, true, true, true, true, true, true, true, true, true, true, true, true, false, true, true, false, false, false, false, false, false, false, false, false, false, false, false, false] rfl rfl (by kernel_rfl) (fun _ _ _ h => h) (Or.inl ⟨by rfl, ?_⟩) ?_ ?_
                          rotate_left
                          · intro w'
                            go_simp
                            with_reducible rfl
                          rotate_left
                          · simp only [Act.put, List.setIfInBounds_toArray, List.set_cons_zero, List.set_cons_succ, i64_w, i32_w]
                            rfl
                          refine take_ (i := 0) (N := some 114) (v := ?_) (a' := ?_) #[true, true, true, true, true, true, true, true, true, true, true, true, true, false, true, true, false, false, false, false, false, false, false, false, false, false, false, false, false] rfl rfl (by kernel_rfl) (fun _ _ _ h => h) (Or.inl ⟨by rfl, ?_⟩) hHeld ?_ ?_
                          rotate_left
                          · rintro w' ⟨s0, s1, s2, s3, s4, s5, s6⟩
                            go_simp
                            with_reducible rfl
                          rotate_left
                          · simp only [Act.put, List.setIfInBounds_toArray, List.set_cons_zero, List.set_cons_succ, i64_w, i32_w]
                            rfl
                          refine take_ (i := 16) (N := some 130) (v := ?_) (a' := ?_) #[true, true, true, true, true, true, true, true, true, true, true, true, true, false, true, true, true, false, false, false, false, false, false, false, false, false, false, false, false] rfl rfl (by kernel_rfl) (fun _ _ _ h => h) (Or.inl ⟨by rfl, ?_⟩) hHeld ?_ ?_
                          rotate_left
                          · rintro w' ⟨s0, s1, s2, s3, s4, s5, s6⟩
                            go_simp
                            with_reducible rfl
                          rotate_left
                          · simp only [Act.put, List.setIfInBounds_toArray, List.set_cons_zero, List.set_cons_succ, i64_w, i32_w]
                            rfl
                          refine one_ (i := 13) (N := some 127) #[true, true, true, true, true, true, true, true, true, true, true, true, true, true, true, true, true, false, false, false, false, false, false, false, false, false, false, false, false] rfl rfl (by kernel_rfl) (by decide) (fun K hK => ?_)
                          refine goes_ Tryz.func46 (by kernel_rfl) rfl #[.int .i64 v] (by rfl) rfl rfl (by simp only [List.map_toArray, List.map_cons, List.map_nil]; rfl) ?_
                          with_reducible refine (itoa_any v d0 HV.out _ (HG.out.below (below_drew HBn.out))).mono ?_
                          rintro e w20 ⟨rfl, hb20⟩
                          refine ⟨_, rfl, ?_⟩
                          have HBm := Aside0.mk (below_step (below_drew HBn.out) hb20)
                          have BKm := Aside0.mk (blk_below (blk_drew BKn.out) hb20)
                          have BXm := Aside0.mk (blk_below (blk_drew BXn.out) hb20)
                          clear hb20
                          refine hK.out _ _ ⟨(blk_cell BKm.out 0).trans rfl, (blk_cell BKm.out 1).trans rfl, (blk_cell BKm.out 2).trans rfl, (blk_cell BKm.out 3).trans rfl, (blk_cell BKm.out 4).trans rfl, (blk_cell BKm.out 5).trans rfl, pw_cell_below HBm.out D0.out⟩ (fun hHeld => ?_)
                          clear hK K
                          refine norm_ (a' := ?_) ?_ ?_
                          rotate_left
                          · show Act.put _ (some 127) _ = _
                            simp only [Act.put, List.setIfInBounds_toArray, List.set_cons_zero, List.set_cons_succ, i64_w, i32_w]
                            rfl
                          refine pure_ (i := 17) (N := some 131) (v := ?_) (a' := ?_) #[true, true, true, true, true, true, true, true, true, true, true, true, true, true, true, true, true, true, false, false, false, false, false, false, false, false, false, false, false] rfl rfl (by kernel_rfl) (fun _ _ _ h => h) (Or.inl ⟨by rfl, ?_⟩) ?_ ?_
                          rotate_left
                          · intro w'
                            go_simp
                            with_reducible rfl
                          rotate_left
                          · simp only [Act.put, List.setIfInBounds_toArray, List.set_cons_zero, List.set_cons_succ, i64_w, i32_w]
                            rfl
                          refine pure_ (i := 18) (N := some 132) (v := ?_) (a' := ?_) #[true, true, true, true, true, true, true, true, true, true, true, true, true, true, true, true, true, true, true, false, false, false, false, false, false, false, false, false, false] rfl rfl (by kernel_rfl) (fun _ _ _ h => h) (Or.inl ⟨by rfl, ?_⟩) ?_ ?_
                          rotate_left
                          · intro w'
                            go_simp
                            with_reducible rfl
                          rotate_left
                          · simp only [Act.put, List.setIfInBounds_toArray, List.set_cons_zero, List.set_cons_succ, i64_w, i32_w]
                            rfl
                          refine pure_ (i := 19) (N := some 133) (v := ?_) (a' := ?_) #[true, true, true, true, true, true, true, true, true, true, true, true, true, true, true, true, true, true, true, true, false, false, false, false, false, false, false, false, false] rfl rfl (by kernel_rfl) (fun _ _ _ h => h) (Or.inl ⟨by rfl, ?_⟩) ?_ ?_
                          rotate_left
                          · intro w'
                            go_simp
                            with_reducible rfl
                          rotate_left
                          · simp only [Act.put, List.setIfInBounds_toArray, List.set_cons_zero, List.set_cons_succ, i64_w, i32_w]
                            rfl
                          refine pure_ (i := 20) (N := some 134) (v := ?_) (a' := ?_) #[true, true, true, true, true, true, true, true, true, true, true, true, true, true, true, true, true, true, true, true, true, false, false, false, false, false, false, false, false] rfl rfl (by kernel_rfl) (fun _ _ _ h => h) (Or.inl ⟨by rfl, ?_⟩) ?_ ?_
                          rotate_left
                          · intro w'
                            go_simp
                            with_reducible rfl
                          rotate_left
                          · simp only [Act.put, List.setIfInBounds_toArray, List.set_cons_zero, List.set_cons_succ, i64_w, i32_w]
                            rfl
                          refine pure_ (i := 21) (N := some 135) (v := ?_) (a' := ?_) #[true, true, true, true, true, true, true, true, true, true, true, true, true, true, true, true, true, true, true, true, true, true, false, false, false, false, false, false, false] rfl rfl (by kernel_rfl) (fun _ _ _ h => h) (Or.inl ⟨by rfl, ?_⟩) ?_ ?_
                          rotate_left
                          · intro w'
                            go_simp
                            with_reducible rfl
                          rotate_left
                          · simp only [Act.put, List.setIfInBounds_toArray, List.set_cons_zero, List.set_cons_succ, i64_w, i32_w]
                            rfl
                          refine pure_ (i := 22) (N := some 136) (v := ?_) (a' := ?_) #[true, true, true, true, true, true, true, true, true, true, true, true, true, true, true, true, true, true, true, true, true, true, true, false, false, false, false, false, false] rfl rfl (by kernel_rfl) (fun _ _ _ h => h) (Or.inl ⟨by rfl, ?_⟩) ?_ ?_
                          rotate_left
                          · intro w'
                            go_simp
                            with_reducible rfl
                          rotate_left
                          · simp only [Act.put, List.setIfInBounds_toArray, List.set_cons_zero, List.set_cons_succ, i64_w, i32_w]
                            rfl
                          refine pure_ (i := 23) (N := some 137) (v := ?_) (a' := ?_) #[true, true, true, true, true, true, true, true, true, true, true, true, true, true, true, true, true, true, true, true, true, true, true, true, false, false, false, false, false] rfl rfl (by kernel_rfl) (fun _ _ _ h => h) (Or.inl ⟨by rfl, ?_⟩) ?_ ?_
                          rotate_left
                          · intro w'
                            go_simp
                            with_reducible rfl
                          rotate_left
                          · simp only [Act.put, List.setIfInBounds_toArray, List.set_cons_zero, List.set_cons_succ, i64_w, i32_w]
                            rfl
                          refine pure_ (i := 24) (N := some 138) (v := undef) (a' := ?_) #[true, true, true, true, true, true, true, true, true, true, true, true, true, true, true, true, true, true, true, true, true, true, true, true, true, false, false, false, false] rfl rfl (by kernel_rfl) (fun _ _ _ h => h) (Or.inr ⟨by rfl, rfl⟩) ?_ ?_
                          rotate_left
                          · simp only [Act.put, List.setIfInBounds_toArray, List.set_cons_zero, List.set_cons_succ, i64_w, i32_w]
                            rfl
                          refine pure_ (i := 25) (N := some 139) (v := undef) (a' := ?_) #[true, true, true, true, true, true, true, true, true, true, true, true, true, true, true, true, true, true, true, true, true, true, true, true, true, true, false, false, false] rfl rfl (by kernel_rfl) (fun _ _ _ h => h) (Or.inr ⟨by rfl, rfl⟩) ?_ ?_
                          rotate_left
                          · simp only [Act.put, List.setIfInBounds_toArray, List.set_cons_zero, List.set_cons_succ, i64_w, i32_w]
                            rfl
                          refine pure_ (i := 26) (N := some 140) (v := ?_) (a' := ?_) #[true, true, true, true, true, true, true, true, true, true, true, true, true, true, true, true, true, true, true, true, true, true, true, true, true, true, true, false, false] rfl rfl (by kernel_rfl) (fun _ _ _ h => h) (Or.inl ⟨by rfl, ?_⟩) ?_ ?_
                          rotate_left
                          · intro w'
                            go_simp
                            with_reducible rfl
                          rotate_left
                          · simp only [Act.put, List.setIfInBounds_toArray, List.set_cons_zero, List.set_cons_succ, i64_w, i32_w]
                            rfl
                          refine last_ (i := 27) (N := none) #[true, true, true, true, true, true, true, true, true, true, true, true, true, true, true, true, true, true, true, true, true, true, true, true, true, true, true, true, false] rfl rfl (by kernel_rfl) (by decide) (fun K hK => ?_)
                          have hz0 := (blk_cell BXm.out 0).trans (rfl : _ = some (Value.string eS))
                          have hz1 := (blk_cell BXm.out 1).trans (rfl : _ = some (Value.string eS))
                          have hz2 := (blk_cell BXm.out 2).trans (rfl : _ = some (Value.string eS))
                          have hz3 := (blk_cell BXm.out 3).trans (rfl : _ = some (Value.string eS))
                          have hz4 := (blk_cell BXm.out 4).trans (rfl : _ = some (Value.string eS))
                          have hz5 := (blk_cell BXm.out 5).trans (rfl : _ = some (Value.string eS))
                          have hf0 := blk_frozen BXm.out 0
                          have hf1 := blk_frozen BXm.out 1
                          have hf2 := blk_frozen BXm.out 2
                          have hf3 := blk_frozen BXm.out 3
                          have hf4 := blk_frozen BXm.out 4
                          have hf5 := blk_frozen BXm.out 5
                          refine skip_ (w1 := ?_) (by rfl) rfl ?_ ?_
                          rotate_left
                          · go_simp
                            rfl
                          refine hK.out _ _ ?_
                          clear hK K
                          refine pure_ (i := 28) (N := some 3) (v := ?_) (a' := ?_) #[true, true, true, true, true, true, true, true, true, true, true, true, true, true, true, true, true, true, true, true, true, true, true, true, true, true, true, true, true] rfl rfl (by kernel_rfl) (fun _ _ _ h => h) (Or.inl ⟨by rfl, ?_⟩) ?_ ?_
                          rotate_left
                          · intro w'
                            go_simp
                            with_reducible rfl
                          rotate_left
                          · simp only [Act.put, List.setIfInBounds_toArray, List.set_cons_zero, List.set_cons_succ, i64_w, i32_w]
                            rfl
                          refine done_ (by kernel_rfl) ?_
                          go_wp2_with fail
                          refine bodyPost_ret (v := encT ⟨k, a, b, d0, sm, eS⟩ false) (by simp [results, Tryz.results33, go_sem, encT, hz0, hz1, hz2, hz3, hz4, hz5]) rfl ?_
                          exact ⟨by rw [← hr]; exact ⟨_, rfl⟩, by first | exact below_set6 HBm.out _ (Nat.le_refl _) _ _ _ _ _ _ | exact below_drew (below_set6 HBm.out _ (Nat.le_refl _) _ _ _ _ _ _)⟩
                      · skip
                        have q3' : ((itoaV v).toList == d0.toList) = false := by rw [toList_iff]; exact decide_eq_false q3
                        have hr := HR4.out
                        rw [decide_eq_false q3, Bool.false_and, Bool.false_and, if_neg (fun h => by cases h.2.2)] at hr
                        have Hr := Aside0.mk hr
                        clear hr q1 q2 q3
                        go_wp2_with fail
                        refine (atoi_ok d0 v HV.out (by have := K0.out.size; omega) _ (HG.out.below HB12.out)).mono ?_
                        rintro e w13 ⟨rfl, hb⟩
                        have HBt := Aside0.mk (below_step HB12.out hb)
                        have BKt := Aside0.mk (blk_below BK12.out hb)
                        have BXt := Aside0.mk (blk_below BX12.out hb)
                        clear hb hx3
                        go_wp2_with fail
                        refine start_ (n := 11) (S := fun w' => w'.cell? ⟨b0, o0 + 3, none⟩ = some (.string d0) ∧ w'.cell? ⟨b0, o0 + 4, none⟩ = some (.string d1)) (ds := [10]) #[false, false, false, false, false, false, false, false, false, false, false] (by kernel_rfl) rfl rfl ⟨pw_cell_below (below_drew HBt.out) D0.out, pw_cell_below (below_drew HBt.out) D1.out⟩ (fun hHeld => ?_)
                        refine pure_ (i := 0) (N := some 105) (v := ?_) (a' := ?_) #[true, false, false, false, false, false, false, false, false, false, false] rfl rfl (by kernel_rfl) (fun _ _ _ h => h) (Or.inl ⟨by rfl, ?_⟩) ?_ ?_
                        rotate_left
                        · intro w'
                          go_simp
                          with_reducible rfl
                        rotate_left
                        · simp only [Act.put, List.setIfInBounds_toArray, List.set_cons_zero, List.set_cons_succ, i64_w, i32_w]
                          rfl
                        refine pure_ (i := 1) (N := some 106) (v := ?_) (a' := ?_) #[true, true, false, false, false, false, false, false, false, false, false] rfl rfl (by kernel_rfl) (fun _ _ _ h => h) (Or.inl ⟨by rfl, ?_⟩) ?_ ?_
                        rotate_left
                        · intro w'
                          go_simp
                          with_reducible rfl
                        rotate_left
                        · simp only [Act.put, List.setIfInBounds_toArray, List.set_cons_zero, List.set_cons_succ, i64_w, i32_w]
                          rfl
                        refine pure_ (i := 3) (N := some 108) (v := ?_) (a' := ?_) #[true, true, false, true, false, false, false, false, false, false, false] rfl rfl (by kernel_rfl) (fun _ _ _ h => h) (Or.inl ⟨by rfl, ?_⟩) ?_ ?_
                        rotate_left
                        · intro w'
                          go_simp
                          with_reducible rfl
                        rotate_left
                        · simp only [Act.put, List.setIfInBounds_toArray, List.set_cons_zero, List.set_cons_succ, i64_w, i32_w]
                          rfl
                        refine pure_ (i := 4) (N := some 109) (v := ?_) (a' := ?_) #[true, true, false, true, true, false, false, false, false, false, false] rfl rfl (by kernel_rfl) (fun _ _ _ h => h) (Or.inl ⟨by rfl, ?_⟩) ?_ ?_
                        rotate_left
                        · intro w'
                          go_simp
                          with_reducible rfl
                        rotate_left
                        · simp only [Act.put, List.setIfInBounds_toArray, List.set_cons_zero, List.set_cons_succ, i64_w, i32_w]
                          rfl
                        refine take_ (i := 2) (N := some 107) (v := ?_) (a' := ?_) #[true, true, true, true, true, false, false, false, false, false, false] rfl rfl (by kernel_rfl) (fun _ _ _ h => h) (Or.inl ⟨by rfl, ?_⟩) hHeld ?_ ?_
                        rotate_left
                        · rintro w' ⟨s0, s1⟩
                          go_simp
                          with_reducible rfl
                        rotate_left
                        · simp only [Act.put, List.setIfInBounds_toArray, List.set_cons_zero, List.set_cons_succ, i64_w, i32_w]
                          rfl
                        refine pure_ (i := 7) (N := some 112) (v := ?_) (a' := ?_) #[true, true, true, true, true, false, false, true, false, false, false] rfl rfl (by kernel_rfl) (fun _ _ _ h => h) (Or.inl ⟨by rfl, ?_⟩) ?_ ?_
                        rotate_left
                        · intro w'
                          go_simp
                          with_reducible rfl
                        rotate_left
                        · simp only [Act.put, List.setIfInBounds_toArray, List.set_cons_zero, List.set_cons_succ, i64_w, i32_w]
                          rfl
                        refine take_ (i := 5) (N := some 110) (v := ?_) (a' := ?_) #[true, true, true, true, true, true, false, true, false, false, false] rfl rfl (by kernel_rfl) (fun _ _ _ h => h) (Or.inl ⟨by rfl, ?_⟩) hHeld ?_ ?_
                        rotate_left
                        · rintro w' ⟨s0, s1⟩
                          go_simp
                          with_reducible rfl
                        rotate_left
                        · simp only [Act.put, List.setIfInBounds_toArray, List.set_cons_zero, List.set_cons_succ, i64_w, i32_w]
                          rfl
                        refine one_ (i := 6) (N := some 111) #[true, true, true, true, true, true, true, true, false, false, false] rfl rfl (by kernel_rfl) (by decide) (fun K hK => ?_)
                        refine goes_ Tryz.func44 (by kernel_rfl) rfl #[.string d1] (by rfl) rfl rfl (by simp only [List.map_toArray, List.map_cons, List.map_nil]; rfl) ?_
                        with_reducible refine (someK_any d1 sm _ (HG.out.below (below_drew HBt.out)) K1.out HSm.out).mono ?_
                        rintro e w14 ⟨rfl, hb14⟩
                        refine ⟨_, rfl, ?_⟩
                        have HB14 := Aside0.mk (below_step (below_drew HBt.out) hb14)
                        have BK14 := Aside0.mk (blk_below (blk_drew BKt.out) hb14)
                        have BX14 := Aside0.mk (blk_below (blk_drew BXt.out) hb14)
                        clear hb14
                        have hy3 := (blk_cell BK14.out 3).trans (rfl : _ = some (Value.string ⟨#[]⟩))
                        have hg3 := blk_frozen BK14.out 3
                        have hy4 := (blk_cell BK14.out 4).trans (rfl : _ = some (Value.string ⟨#[]⟩))
                        have hg4 := blk_frozen BK14.out 4
                        refine hK.out _ _ ⟨pw_cell_below HB14.out D0.out, pw_cell_below HB14.out D1.out⟩ (fun hHeld => ?_)
                        clear hK K
                        refine norm_ (a' := ?_) ?_ ?_
                        rotate_left
                        · show Act.put _ (some 111) _ = _
                          simp only [Act.put, List.setIfInBounds_toArray, List.set_cons_zero, List.set_cons_succ, i64_w, i32_w]
                          rfl
                        refine one_ (i := 8) (N := none) #[true, true, true, true, true, true, true, true, true, false, false] rfl rfl (by kernel_rfl) (by decide) (fun K hK => ?_)
                        refine skip_ (w1 := ?_) (by rfl) rfl ?_ ?_
                        rotate_left
                        · go_simp
                          rfl
                        refine hK.out _ _ ⟨(cell_far hbg _).trans (pw_cell_below HB14.out D0.out), (cell_far hbg _).trans (pw_cell_below HB14.out D1.out)⟩ (fun hHeld => ?_)
                        clear hK K
                        refine pure_ (i := 9) (N := some 113) (v := ?_) (a' := ?_) #[true, true, true, true, true, true, true, true, true, true, false] rfl rfl (by kernel_rfl) (fun _ _ _ h => h) (Or.inl ⟨by rfl, ?_⟩) ?_ ?_
                        rotate_left
                        · intro w'
                          go_simp
                          with_reducible rfl
                        rotate_left
                        · simp only [Act.put, List.setIfInBounds_toArray, List.set_cons_zero, List.set_cons_succ, i64_w, i32_w]
                          rfl
                        refine last_ (i := 10) (N := none) #[true, true, true, true, true, true, true, true, true, true, true] rfl rfl (by kernel_rfl) (by decide) (fun K hK => ?_)
                        refine skip_ (w1 := ?_) (by rfl) rfl ?_ ?_
                        rotate_left
                        · go_simp
                          rfl
                        refine hK.out _ _ ?_
                        clear hK K
                        refine done_ (by kernel_rfl) ?_
                        have HBn : Aside0 (Below w.heap.size w ((w14.setCell ⟨g10, 3, none⟩ (.string d0)).setCell ⟨g10, 4, none⟩ (.string sm))) := ⟨(Below.setCell (Below.setCell HB14.out (Nat.le_of_lt hgw) _) (Nat.le_of_lt hgw) _)⟩
                        have BKn : Aside0 (((w14.setCell ⟨g10, 3, none⟩ (.string d0)).setCell ⟨g10, 4, none⟩ (.string sm)).heap[g10]? = some (.cells #[.string k, .string a, .string b, .string d0, .string sm, .string eS] 32 (0, 0))) := ⟨(blk_put (blk_put BK14.out 3 _ rfl) 4 _ rfl)⟩
                        have BXn : Aside0 (((w14.setCell ⟨g10, 3, none⟩ (.string d0)).setCell ⟨g10, 4, none⟩ (.string sm)).heap[w.heap.size]? = some (.cells #[.string eS, .string eS, .string eS, .string eS, .string eS, .string eS] 32 (0, 0))) := ⟨(blk_far (blk_far BX14.out (Nat.ne_of_lt hgw) _) (Nat.ne_of_lt hgw) _)⟩
                        generalize ((w14.setCell ⟨g10, 3, none⟩ (.string d0)).setCell ⟨g10, 4, none⟩ (.string sm)) = w15 at HBn BKn BXn ⊢
                        clear hy3 hy4 hg3 hg4 hx0
                        have hr := Hr.out
                        go_wp2_with fail
                        refine start_ (n := 29) (S := fun w' => w'.cell? ⟨g10, 0, none⟩ = some (.string k) ∧ w'.cell? ⟨g10, 1, none⟩ = some (.string a) ∧ w'.cell? ⟨g10, 2, none⟩ = some (.string b) ∧ w'.cell? ⟨g10, 3, none⟩ = some (.string d0) ∧ w'.cell? ⟨g10, 4, none⟩ = some (.string sm) ∧ w'.cell? ⟨g10, 5, none⟩ = some (.string eS) ∧ w'.cell? ⟨b0, o0 + 3, none⟩ = some (.string d0)) (ds := [27]) #[false, false, false, false, false, false, false, false, false, false, false, false, false, false, false, false, false, false, false, false, false, false, false, false, false, false, false, false, false] (by kernel_rfl) rfl rfl ⟨(blk_cell (blk_drew BKn.out) 0).trans rfl, (blk_cell (blk_drew BKn.out) 1).trans rfl, (blk_cell (blk_drew BKn.out) 2).trans rfl, (blk_cell (blk_drew BKn.out) 3).trans rfl, (blk_cell (blk_drew BKn.out) 4).trans rfl, (blk_cell (blk_drew BKn.out) 5).trans rfl, pw_cell_below (below_drew HBn.out) D0.out⟩ (fun hHeld => ?_)
                        refine pure_ (i := 1) (N := some 115) (v := ?_) (a' := ?_) #[false, true, false, false, false, false, false, false, false, false, false, false, false, false, false, false, false, false, false, false, false, false, false, false, false, false, false, false, false] rfl rfl (by kernel_rfl) (fun _ _ _ h => h) (Or.inl ⟨by rfl, ?_⟩) ?_ ?_
                        rotate_left
                        · intro w'
                          go_simp
                          with_reducible rfl
                        rotate_left
                        · simp only [Act.put, List.setIfInBounds_toArray, List.set_cons_zero, List.set_cons_succ, i64_w, i32_w]
                          rfl
                        refine pure_ (i := 2) (N := some 116) (v := ?_) (a' := ?_) #[false, true, true, false, false, false, false, false, false, false, false, false, false, false, false, false, false, false, false, false, false, false, false, false, false, false, false, false, false] rfl rfl (by kernel_rfl) (fun _ _ _ h => h) (Or.inl ⟨by rfl, ?_⟩) ?_ ?_
                        rotate_left
                        · intro w'
                          go_simp
                          with_reducible rfl
                        rotate_left
                        · simp only [Act.put, List.setIfInBounds_toArray, List.set_cons_zero, List.set_cons_succ, i64_w, i32_w]
                          rfl
                        refine pure_ (i := 3) (N := some 117) (v := ?_) (a' := ?_) #[false, true, true, true, false, false, false, false, false, false, false, false, false, false, false, false, false, false, false, false, false, false, false, false, false, false, false, false, false] rfl rfl (by kernel_rfl) (fun _ _ _ h => h) (Or.inl ⟨by rfl, ?_⟩) ?_ ?_
                        rotate_left
                        · intro w'
                          go_simp
                          with_reducible rfl
                        rotate_left
                        · simp only [Act.put, List.setIfInBounds_toArray, List.set_cons_zero, List.set_cons_succ, i64_w, i32_w]
                          rfl
                        refine pure_ (i := 4) (N := some 118) (v := ?_) (a' := ?_) #[false, true, true, true, true, false, false, false, false, false, false, false, false, false, false, false, false, false, false, false, false, false, false, false, false, false, false, false, false] rfl rfl (by kernel_rfl) (fun _ _ _ h => h) (Or.inl ⟨by rfl, ?_⟩) ?_ ?_
                        rotate_left
                        · intro w'
                          go_simp
                          with_reducible rfl
                        rotate_left
                        · simp only [Act.put, List.setIfInBounds_toArray, List.set_cons_zero, List.set_cons_succ, i64_w, i32_w]
                          rfl
                        refine pure_ (i := 5) (N := some 119) (v := ?_) (a' := ?_) #[false, true, true, true, true, true, false, false, false, false, false, false, false, false, false, false, false, false, false, false, false, false, false, false, false, false, false, false, false] rfl rfl (by kernel_rfl) (fun _ _ _ h => h) (Or.inl ⟨by rfl, ?_⟩) ?_ ?_
                        rotate_left
                        · intro w'
                          go_simp
                          with_reducible rfl
                        rotate_left
                        · simp only [Act.put, List.setIfInBounds_toArray, List.set_cons_zero, List.set_cons_succ, i64_w, i32_w]
                          rfl
                        refine pure_ (i := 6) (N := some 120) (v := ?_) (a' := ?_) #[false, true, true, true, true, true, true, false, false, false, false, false, false, false, false, false, false, false, false, false, false, false, false, false, false, false, false, false, false] rfl rfl (by kernel_rfl) (fun _ _ _ h => h) (Or.inl ⟨by rfl, ?_⟩) ?_ ?_
                        rotate_left
                        · intro w'
                          go_simp
                          with_reducible rfl
                        rotate_left
                        · simp only [Act.put, List.setIfInBounds_toArray, List.set_cons_zero, List.set_cons_succ, i64_w, i32_w]
                          rfl
                        refine pure_ (i := 7) (N := some 121) (v := ?_) (a' := ?_) #[false, true, true, true, true, true, true, true, false, false, false, false, false, false, false, false, false, false, false, false, false, false, false, false, false, false, false, false, false] rfl rfl (by kernel_rfl) (fun _ _ _ h => h) (Or.inl ⟨by rfl, ?_⟩) ?_ ?_
                        rotate_left
                        · intro w'
                          go_simp
                          with_reducible rfl
                        rotate_left
                        · simp only [Act.put, List.setIfInBounds_toArray, List.set_cons_zero, List.set_cons_succ, i64_w, i32_w]
                          rfl
                        refine pure_ (i := 8) (N := some 122) (v := ?_) (a' := ?_) #[false, true, true, true, true, true, true, true, true, false, false, false, false, false, false, false, false, false, false, false, false, false, false, false, false, false, false, false, false] rfl rfl (by kernel_rfl) (fun _ _ _ h => h) (Or.inl ⟨by rfl, ?_⟩) ?_ ?_
                        rotate_left
                        · intro w'
                          go_simp
                          with_reducible rfl
                        rotate_left
                        · simp only [Act.put, List.setIfInBounds_toArray, List.set_cons_zero, List.set_cons_succ, i64_w, i32_w]
                          rfl
                        refine pure_ (i := 9) (N := some 123) (v := ?_) (a' := ?_) #[false, true, true, true, true, true, true, true, true, true, false, false, false, false, false, false, false, false, false, false, false, false, false, false, false, false, false, false, false] rfl rfl (by kernel_rfl) (fun _ _ _ h => h) (Or.inl ⟨by rfl, ?_⟩) ?_ ?_
                        rotate_left
                        · intro w'
                          go_simp
                          with_reducible rfl
                        rotate_left
                        · simp only [Act.put, List.setIfInBounds_toArray, List.set_cons_zero, List.set_cons_succ, i64_w, i32_w]
                          rfl
                        refine pure_ (i := 10) (N := some 124) (v := ?_) (a' := ?_) #[false, true, true, true, true, true, true, true, true, true, true, false, false, false, false, false, false, false, false, false, false, false, false, false, false, false, false, false, false] rfl rfl (by kernel_rfl) (fun _ _ _ h => h) (Or.inl ⟨by rfl, ?_⟩) ?_ ?_
                        rotate_left
                        · intro w'
                          go_simp
                          with_reducible rfl
                        rotate_left
                        · simp only [Act.put, List.setIfInBounds_toArray, List.set_cons_zero, List.set_cons_succ, i64_w, i32_w]
                          rfl
                        refine pure_ (i := 11) (N := some 125) (v := ?_) (a' := ?_) #[false, true, true, true, true, true, true, true, true, true, true, true, false, false, false, false, false, false, false, false, false, false, false, false, false, false, false, false, false] rfl rfl (by kernel_rfl) (fun _ _ _ h => h) (Or.inl ⟨by rfl, ?_⟩) ?_ ?_
                        rotate_left
                        · intro w'
                          go_simp
                          with_reducible rfl
                        rotate_left
                        · simp only [Act.put, List.setIfInBounds_toArray, List.set_cons_zero, List.set_cons_succ, i64_w, i32_w]
                          rfl
                        refine pure_ (i := 12) (N := some 126) (v := ?_) (a' := ?_) #[false, true, true, true, true, true, true, true, true, true, true, true, true, false, false, false, false, false, false, false, false, false, false, false, false, false, false, false, false] rfl rfl (by kernel_rfl) (fun _ _ _ h => h) (Or.inl ⟨by rfl, ?_⟩) ?_ ?_
                        rotate_left
                        · intro w'
                          go_simp
                          with_reducible rfl
                        rotate_left
                        · simp only [Act.put, List.setIfInBounds_toArray, List.set_cons_zero, List.set_cons_succ, i64_w, i32_w]
                          rfl
                        refine pure_ (i := 14) (N := some 128) (v := ?_) (a' := ?_) #[false, true, true, true, true, true, true, true, true, true, true, true, true, false, true, false, false, false, false, false, false, false, false, false, false, false, false, false, false] rfl rfl (by kernel_rfl) (fun _ _ _ h => h) (Or.inl ⟨by rfl, ?_⟩) ?_ ?_
                        rotate_left
                        · intro w'
                          go_simp
                          with_reducible rfl
                        rotate_left
                        · simp only [Act.put, List.setIfInBounds_toArray, List.set_cons_zero, List.set_cons_succ, i64_w, i32_w]
                          rfl
                        refine pure_ (i := 15) (N := some 129) (v := ?_) (a' := ?_) #[false, true, true, true, true, true, true, true, true, true, true, true, true, false, true, true, false, false, false, false, false, false, false, false, false, false, false, false, false] rfl rfl (by kernel_rfl) (fun _ _ _ h => h) (Or.inl ⟨by rfl, ?_⟩) ?_ ?_
                        rotate_left
                        · intro w'
                          go_simp
                          with_reducible rfl
                        rotate_left
                        · simp only [Act.put, List.setIfInBounds_toArray, List.set_cons_zero, List.set_cons_succ, i64_w, i32_w]
                          rfl
                        refine take_ (i := 0) (N := some 114) (v := ?_) (a' := ?_) #[true, true, true, true, true, true, true, true, true, true, true, true, true, false, true, true, false, false, false, false, false, false, false, false, false, false, false, false, false] rfl rfl (by kernel_rfl) (fun _ _ _ h => h) (Or.inl ⟨by rfl, ?_⟩) hHeld ?_ ?_
                        rotate_left
                        · rintro w' ⟨s0, s1, s2, s3, s4, s5, s6⟩
                          go_simp
                          with_reducible rfl
                        rotate_left
                        · simp only [Act.put, List.setIfInBounds_toArray, List.set_cons_zero, List.set_cons_succ, i64_w, i32_w]
                          rfl
                        refine take_ (i := 16) (N := some 130) (v := ?_) (a' := ?_) #[true, true, true, true, true, true, true, true, true, true, true, true, true, false, true, true, true, false, false, false, false, false, false, false, false, false, false, false, false] rfl rfl (by kernel_rfl) (fun _ _ _ h => h) (Or.inl ⟨by rfl, ?_⟩) hHeld ?_ ?_
                        rotate_left
                        · rintro w' ⟨s0, s1, s2, s3, s4, s5, s6⟩
                          go_simp
                          with_reducible rfl
                        rotate_left
                        · simp only [Act.put, List.setIfInBounds_toArray, List.set_cons_zero, List.set_cons_succ, i64_w, i32_w]
                          rfl
                        refine one_ (i := 13) (N := some 127) #[true, true, true, true, true, true, true, true, true, true, true, true, true, true, true, true, true, false, false, false, false, false, false, false, false, false, false, false, false] rfl rfl (by kernel_rfl) (by decide) (fun K hK => ?_)
                        refine goes_ Tryz.func46 (by kernel_rfl) rfl #[.int .i64 v] (by rfl) rfl rfl (by simp only [List.map_toArray, List.map_cons, List.map_nil]; rfl) ?_
                        with_reducible refine (itoa_any v d0 HV.out _ (HG.out.below (below_drew HBn.out))).mono ?_
                        rintro e w20 ⟨rfl, hb20⟩
                        refine ⟨_, rfl, ?_⟩
                        have HBm := Aside0.mk (below_step (below_drew HBn.out) hb20)
                        have BKm := Aside0.mk (blk_below (blk_drew BKn.out) hb20)
                        have BXm := Aside0.mk (blk_below (blk_drew BXn.out) hb20)
                        clear hb20
                        refine hK.out _ _ ⟨(blk_cell BKm.out 0).trans rfl, (blk_cell BKm.out 1).trans rfl, (blk_cell BKm.out 2).trans rfl, (blk_cell BKm.out 3).trans rfl, (blk_cell BKm.out 4).trans rfl, (blk_cell BKm.out 5).trans rfl, pw_cell_below HBm.out D0.out⟩ (fun hHeld => ?_)
                        clear hK K
                        refine norm_ (a' := ?_) ?_ ?_
                        rotate_left
                        · show Act.put _ (some 127) _ = _
                          simp only [Act.put, List.setIfInBounds_toArray, List.set_cons_zero, List.set_cons_succ, i64_w, i32_w]
                          rfl
                        refine pure_ (i := 17) (N := some 131) (v := ?_) (a' := ?_) #[true, true, true, true, true, true, true, true, true, true, true, true, true, true, true, true, true, true, false, false, false, false, false, false, false, false, false, false, false] rfl rfl (by kernel_rfl) (fun _ _ _ h => h) (Or.inl ⟨by rfl, ?_⟩) ?_ ?_
                        rotate_left
                        · intro w'
                          go_simp
                          with_reducible rfl
                        rotate_left
                        · simp only [Act.put, List.setIfInBounds_toArray, List.set_cons_zero, List.set_cons_succ, i64_w, i32_w]
                          rfl
                        refine pure_ (i := 18) (N := some 132) (v := ?_) (a' := ?_) #[true, true, true, true, true, true, true, true, true, true, true, true, true, true, true, true, true, true, true, false, false, false, false, false, false, false, false, false, false] rfl rfl (by kernel_rfl) (fun _ _ _ h => h) (Or.inl ⟨by rfl, ?_⟩) ?_ ?_
                        rotate_left
                        · intro w'
                          go_simp
                          with_reducible rfl
                        rotate_left
                        · simp only [Act.put, List.setIfInBounds_toArray, List.set_cons_zero, List.set_cons_succ, i64_w, i32_w]
                          rfl
                        refine pure_ (i := 19) (N := some 133) (v := ?_) (a' := ?_) #[true, true, true, true, true, true, true, true, true, true, true, true, true, true, true, true, true, true, true, true, false, false, false, false, false, false, false, false, false] rfl rfl (by kernel_rfl) (fun _ _ _ h => h) (Or.inl ⟨by rfl, ?_⟩) ?_ ?_
                        rotate_left
                        · intro w'
                          go_simp
                          with_reducible rfl
                        rotate_left
                        · simp only [Act.put, List.setIfInBounds_toArray, List.set_cons_zero, List.set_cons_succ, i64_w, i32_w]
                          rfl
                        refine pure_ (i := 20) (N := some 134) (v := undef) (a' := ?_) #[true, true, true, true, true, true, true, true, true, true, true, true, true, true, true, true, true, true, true, true, true, false, false, false, false, false, false, false, false] rfl rfl (by kernel_rfl) (fun _ _ _ h => h) (Or.inr ⟨by rfl, rfl⟩) ?_ ?_
                        rotate_left
                        · simp only [Act.put, List.setIfInBounds_toArray, List.set_cons_zero, List.set_cons_succ, i64_w, i32_w]
                          rfl
                        refine pure_ (i := 21) (N := some 135) (v := undef) (a' := ?_) #[true, true, true, true, true, true, true, true, true, true, true, true, true, true, true, true, true, true, true, true, true, true, false, false, false, false, false, false, false] rfl rfl (by kernel_rfl) (fun _ _ _ h => h) (Or.inr ⟨by rfl, rfl⟩) ?_ ?_
                        rotate_left
                        · simp only [Act.put, List.setIfInBounds_toArray, List.set_cons_zero, List.set_cons_succ, i64_w, i32_w]
                          rfl
                        refine pure_ (i := 22) (N := some 136) (v := ?_) (a' := ?_) #[true, true, true, true, true, true, true, true, true, true, true, true, true, true, true, true, true, true, true, true, true, true, true, false, false, false, false, false, false] rfl rfl (by kernel_rfl) (fun _ _ _ h => h) (Or.inl ⟨by rfl, ?_⟩) ?_ ?_
                        rotate_left
                        · intro w'
                          go_simp
                          with_reducible rfl
                        rotate_left
                        · simp only [Act.put, List.setIfInBounds_toArray, List.set_cons_zero, List.set_cons_succ, i64_w, i32_w]
                          rfl
                        refine pure_ (i := 23) (N := some 137) (v := ?_) (a' := ?_) #[true, true, true, true, true, true, true, true, true, true, true, true, true, true, true, true, true, true, true, true, true, true, true, true, false, false, false, false, false] rfl rfl (by kernel_rfl) (fun _ _ _ h => h) (Or.inl ⟨by rfl, ?_⟩) ?_ ?_
                        rotate_left
                        · intro w'
                          go_simp
                          with_reducible rfl
                        rotate_left
                        · simp only [Act.put, List.setIfInBounds_toArray, List.set_cons_zero, List.set_cons_succ, i64_w, i32_w]
                          rfl
                        refine pure_ (i := 24) (N := some 138) (v := undef) (a' := ?_) #[true, true, true, true, true, true, true, true, true, true, true, true, true, true, true, true, true, true, true, true, true, true, true, true, true, false, false, false, false] rfl rfl (by kernel_rfl) (fun _ _ _ h => h) (Or.inr ⟨by rfl, rfl⟩) ?_ ?_
                        rotate_left
                        · simp only [Act.put, List.setIfInBounds_toArray, List.set_cons_zero, List.set_cons_succ, i64_w, i32_w]
                          rfl
                        refine pure_ (i := 25) (N := some 139) (v := undef) (a' := ?_) #[true, true, true, true, true, true, true, true, true, true, true, true, true, true, true, true, true, true, true, true, true, true, true, true, true, true, false, false, false] rfl rfl (by kernel_rfl) (fun _ _ _ h => h) (Or.inr ⟨by rfl, rfl⟩) ?_ ?_
                        rotate_left
                        · simp only [Act.put, List.setIfInBounds_toArray, List.set_cons_zero, List.set_cons_succ, i64_w, i32_w]
                          rfl
                        refine pure_ (i := 26) (N := some 140) (v := ?_) (a' := ?_) #[true, true, true, true, true, true, true, true, true, true, true, true, true, true, true, true, true, true, true, true, true, true, true, true, true, true, true, false, false] rfl rfl (by kernel_rfl) (fun _ _ _ h => h) (Or.inl ⟨by rfl, ?_⟩) ?_ ?_
                        rotate_left
                        · intro w'
                          go_simp
                          with_reducible rfl
                        rotate_left
                        · simp only [Act.put, List.setIfInBounds_toArray, List.set_cons_zero, List.set_cons_succ, i64_w, i32_w]
                          rfl
                        refine last_ (i := 27) (N := none) #[true, true, true, true, true, true, true, true, true, true, true, true, true, true, true, true, true, true, true, true, true, true, true, true, true, true, true, true, false] rfl rfl (by kernel_rfl) (by decide) (fun K hK => ?_)
                        have hz0 := (blk_cell BXm.out 0).trans (rfl : _ = some (Value.string eS))
                        have hz1 := (blk_cell BXm.out 1).trans (rfl : _ = some (Value.string eS))
                        have hz2 := (blk_cell BXm.out 2).trans (rfl : _ = some (Value.string eS))
                        have hz3 := (blk_cell BXm.out 3).trans (rfl : _ = some (Value.string eS))
                        have hz4 := (blk_cell BXm.out 4).trans (rfl : _ = some (Value.string eS))
                        have hz5 := (blk_cell BXm.out 5).trans (rfl : _ = some (Value.string eS))
                        have hf0 := blk_frozen BXm.out 0
                        have hf1 := blk_frozen BXm.out 1
                        have hf2 := blk_frozen BXm.out 2
                        have hf3 := blk_frozen BXm.out 3
                        have hf4 := blk_frozen BXm.out 4
                        have hf5 := blk_frozen BXm.out 5
                        refine skip_ (w1 := ?_) (by rfl) rfl ?_ ?_
                        rotate_left
                        · go_simp
                          rfl
                        refine hK.out _ _ ?_
                        clear hK K
                        refine pure_ (i := 28) (N := some 3) (v := ?_) (a' := ?_) #[true, true, true, true, true, true, true, true, true, true, true, true, true, true, true, true, true, true, true, true, true, true, true, true, true, true, true, true, true] rfl rfl (by kernel_rfl) (fun _ _ _ h => h) (Or.inl ⟨by rfl, ?_⟩) ?_ ?_
                        rotate_left
                        · intro w'
                          go_simp
                          with_reducible rfl
                        rotate_left
                        · simp only [Act.put, List.setIfInBounds_toArray, List.set_cons_zero, List.set_cons_succ, i64_w, i32_w]
                          rfl
                        refine done_ (by kernel_rfl) ?_
                        go_wp2_with fail
                        refine bodyPost_ret (v := encT ⟨k, a, b, d0, sm, eS⟩ false) (by simp [results, Tryz.results33, go_sem, encT, hz0, hz1, hz2, hz3, hz4, hz5]) rfl ?_
                        exact ⟨by rw [← hr]; exact ⟨_, rfl⟩, by first | exact below_set6 HBm.out _ (Nat.le_refl _) _ _ _ _ _ _ | exact below_drew (below_set6 HBm.out _ (Nat.le_refl _) _ _ _ _ _ _)⟩
                  · skip
                    have q2' : ((s2 : Int) == 0) = false := by rw [beq_eq_false_iff_ne]; omega
                    have hr := HR3.out
                    rw [if_neg (fun h => q2 h.2.1)] at hr
                    have Hr := Aside0.mk hr
                    clear hr q1 q2
                    go_wp2_with fail
                    refine (atoi_any d0 (by have := K0.out.size; omega) _ (HG.out.below HB12.out)).mono ?_
                    rintro e w13 ⟨vb, eb, rfl, hb⟩
                    have HBt := Aside0.mk (below_step HB12.out hb)
                    have BKt := Aside0.mk (blk_below BK12.out hb)
                    have BXt := Aside0.mk (blk_below BX12.out hb)
                    clear hb hx3
                    go_wp2_with fail
                    refine start_ (n := 11) (S := fun w' => w'.cell? ⟨b0, o0 + 3, none⟩ = some (.string d0) ∧ w'.cell? ⟨b0, o0 + 4, none⟩ = some (.string d1)) (ds := [10]) #[false, false, false, false, false, false, false, false, false, false, false] (by kernel_rfl) rfl rfl ⟨pw_cell_below (below_drew HBt.out) D0.out, pw_cell_below (below_drew HBt.out) D1.out⟩ (fun hHeld => ?_)
                    refine pure_ (i := 0) (N := some 105) (v := ?_) (a' := ?_) #[true, false, false, false, false, false, false, false, false, false, false] rfl rfl (by kernel_rfl) (fun _ _ _ h => h) (Or.inl ⟨by rfl, ?_⟩) ?_ ?_
                    rotate_left
                    · intro w'
                      go_simp
                      with_reducible rfl
                    rotate_left
                    · simp only [Act.put, List.setIfInBounds_toArray, List.set_cons_zero, List.set_cons_succ, i64_w, i32_w]
                      rfl
                    refine pure_ (i := 1) (N := some 106) (v := ?_) (a' := ?_) #[true, true, false, false, false, false, false, false, false, false, false] rfl rfl (by kernel_rfl) (fun _ _ _ h => h) (Or.inl ⟨by rfl, ?_⟩) ?_ ?_
                    rotate_left
                    · intro w'
                      go_simp
                      with_reducible rfl
                    rotate_left
                    · simp only [Act.put, List.setIfInBounds_toArray, List.set_cons_zero, List.set_cons_succ, i64_w, i32_w]
                      rfl
                    refine pure_ (i := 3) (N := some 108) (v := ?_) (a' := ?_) #[true, true, false, true, false, false, false, false, false, false, false] rfl rfl (by kernel_rfl) (fun _ _ _ h => h) (Or.inl ⟨by rfl, ?_⟩) ?_ ?_
                    rotate_left
                    · intro w'
                      go_simp
                      with_reducible rfl
                    rotate_left
                    · simp only [Act.put, List.setIfInBounds_toArray, List.set_cons_zero, List.set_cons_succ, i64_w, i32_w]
                      rfl
                    refine pure_ (i := 4) (N := some 109) (v := ?_) (a' := ?_) #[true, true, false, true, true, false, false, false, false, false, false] rfl rfl (by kernel_rfl) (fun _ _ _ h => h) (Or.inl ⟨by rfl, ?_⟩) ?_ ?_
                    rotate_left
                    · intro w'
                      go_simp
                      with_reducible rfl
                    rotate_left
                    · simp only [Act.put, List.setIfInBounds_toArray, List.set_cons_zero, List.set_cons_succ, i64_w, i32_w]
                      rfl
                    refine take_ (i := 2) (N := some 107) (v := ?_) (a' := ?_) #[true, true, true, true, true, false, false, false, false, false, false] rfl rfl (by kernel_rfl) (fun _ _ _ h => h) (Or.inl ⟨by rfl, ?_⟩) hHeld ?_ ?_
                    rotate_left
                    · rintro w' ⟨s0, s1⟩
                      go_simp
                      with_reducible rfl
                    rotate_left
                    · simp only [Act.put, List.setIfInBounds_toArray, List.set_cons_zero, List.set_cons_succ, i64_w, i32_w]
                      rfl
                    refine pure_ (i := 7) (N := some 112) (v := ?_) (a' := ?_) #[true, true, true, true, true, false, false, true, false, false, false] rfl rfl (by kernel_rfl) (fun _ _ _ h => h) (Or.inl ⟨by rfl, ?_⟩) ?_ ?_
                    rotate_left
                    · intro w'
                      go_simp
                      with_reducible rfl
                    rotate_left
                    · simp only [Act.put, List.setIfInBounds_toArray, List.set_cons_zero, List.set_cons_succ, i64_w, i32_w]
                      rfl
                    refine take_ (i := 5) (N := some 110) (v := ?_) (a' := ?_) #[true, true, true, true, true, true, false, true, false, false, false] rfl rfl (by kernel_rfl) (fun _ _ _ h => h) (Or.inl ⟨by rfl, ?_⟩) hHeld ?_ ?_
                    rotate_left
                    · rintro w' ⟨s0, s1⟩
                      go_simp
                      with_reducible rfl
                    rotate_left
                    · simp only [Act.put, List.setIfInBounds_toArray, List.set_cons_zero, List.set_cons_succ, i64_w, i32_w]
                      rfl
                    refine one_ (i := 6) (N := some 111) #[true, true, true, true, true, true, true, true, false, false, false] rfl rfl (by kernel_rfl) (by decide) (fun K hK => ?_)
                    refine goes_ Tryz.func44 (by kernel_rfl) rfl #[.string d1] (by rfl) rfl rfl (by simp only [List.map_toArray, List.map_cons, List.map_nil]; rfl) ?_
                    with_reducible refine (someK_any d1 sm _ (HG.out.below (below_drew HBt.out)) K1.out HSm.out).mono ?_
                    rintro e w14 ⟨rfl, hb14⟩
                    refine ⟨_, rfl, ?_⟩
                    have HB14 := Aside0.mk (below_step (below_drew HBt.out) hb14)
                    have BK14 := Aside0.mk (blk_below (blk_drew BKt.out) hb14)
                    have BX14 := Aside0.mk (blk_below (blk_drew BXt.out) hb14)
                    clear hb14
                    have hy3 := (blk_cell BK14.out 3).trans (rfl : _ = some (Value.string ⟨#[]⟩))
                    have hg3 := blk_frozen BK14.out 3
                    have hy4 := (blk_cell BK14.out 4).trans (rfl : _ = some (Value.string ⟨#[]⟩))
                    have hg4 := blk_frozen BK14.out 4
                    refine hK.out _ _ ⟨pw_cell_below HB14.out D0.out, pw_cell_below HB14.out D1.out⟩ (fun hHeld => ?_)
                    clear hK K
                    refine norm_ (a' := ?_) ?_ ?_
                    rotate_left
                    · show Act.put _ (some 111) _ = _
                      simp only [Act.put, List.setIfInBounds_toArray, List.set_cons_zero, List.set_cons_succ, i64_w, i32_w]
                      rfl
                    refine one_ (i := 8) (N := none) #[true, true, true, true, true, true, true, true, true, false, false] rfl rfl (by kernel_rfl) (by decide) (fun K hK => ?_)
                    refine skip_ (w1 := ?_) (by rfl) rfl ?_ ?_
                    rotate_left
                    · go_simp
                      rfl
                    refine hK.out _ _ ⟨(cell_far hbg _).trans (pw_cell_below HB14.out D0.out), (cell_far hbg _).trans (pw_cell_below HB14.out D1.out)⟩ (fun hHeld => ?_)
                    clear hK K
                    refine pure_ (i := 9) (N := some 113) (v := ?_) (a' := ?_) #[true, true, true, true, true, true, true, true, true, true, false] rfl rfl (by kernel_rfl) (fun _ _ _ h => h) (Or.inl ⟨by rfl, ?_⟩) ?_ ?_
                    rotate_left
                    · intro w'
                      go_simp
                      with_reducible rfl
                    rotate_left
                    · simp only [Act.put, List.setIfInBounds_toArray, List.set_cons_zero, List.set_cons_succ, i64_w, i32_w]
                      rfl
                    refine last_ (i := 10) (N := none) #[true, true, true, true, true, true, true, true, true, true, true] rfl rfl (by kernel_rfl) (by decide) (fun K hK => ?_)
                    refine skip_ (w1 := ?_) (by rfl) rfl ?_ ?_
                    rotate_left
                    · go_simp
                      rfl
                    refine hK.out _ _ ?_
                    clear hK K
                    refine done_ (by kernel_rfl) ?_
                    have HBn : Aside0 (Below w.heap.size w ((w14.setCell ⟨g10, 3, none⟩ (.string d0)).setCell ⟨g10, 4, none⟩ (.string sm))) := ⟨(Below.setCell (Below.setCell HB14.out (Nat.le_of_lt hgw) _) (Nat.le_of_lt hgw) _)⟩
                    have BKn : Aside0 (((w14.setCell ⟨g10, 3, none⟩ (.string d0)).setCell ⟨g10, 4, none⟩ (.string sm)).heap[g10]? = some (.cells #[.string k, .string a, .string b, .string d0, .string sm, .string eS] 32 (0, 0))) := ⟨(blk_put (blk_put BK14.out 3 _ rfl) 4 _ rfl)⟩
                    have BXn : Aside0 (((w14.setCell ⟨g10, 3, none⟩ (.string d0)).setCell ⟨g10, 4, none⟩ (.string sm)).heap[w.heap.size]? = some (.cells #[.string eS, .string eS, .string eS, .string eS, .string eS, .string eS] 32 (0, 0))) := ⟨(blk_far (blk_far BX14.out (Nat.ne_of_lt hgw) _) (Nat.ne_of_lt hgw) _)⟩
                    generalize ((w14.setCell ⟨g10, 3, none⟩ (.string d0)).setCell ⟨g10, 4, none⟩ (.string sm)) = w15 at HBn BKn BXn ⊢
                    clear hy3 hy4 hg3 hg4 hx0
                    have hr := Hr.out
                    go_wp2_with fail
                    refine start_ (n := 29) (S := fun w' => w'.cell? ⟨g10, 0, none⟩ = some (.string k) ∧ w'.cell? ⟨g10, 1, none⟩ = some (.string a) ∧ w'.cell? ⟨g10, 2, none⟩ = some (.string b) ∧ w'.cell? ⟨g10, 3, none⟩ = some (.string d0) ∧ w'.cell? ⟨g10, 4, none⟩ = some (.string sm) ∧ w'.cell? ⟨g10, 5, none⟩ = some (.string eS) ∧ w'.cell? ⟨b0, o0 + 3, none⟩ = some (.string d0)) (ds := [27]) #[false, false, false, false, false, false, false, false, false, false, false, false, false, false, false, false, false, false, false, false, false, false, false, false, false, false, false, false, false] (by kernel_rfl) rfl rfl ⟨(blk_cell (blk_drew BKn.out) 0).trans rfl, (blk_cell (blk_drew BKn.out) 1).trans rfl, (blk_cell (blk_drew BKn.out) 2).trans rfl, (blk_cell (blk_drew BKn.out) 3).trans rfl, (blk_cell (blk_drew BKn.out) 4).trans rfl, (blk_cell (blk_drew BKn.out) 5).trans rfl, pw_cell_below (below_drew HBn.out) D0.out⟩ (fun hHeld => ?_)
                    refine pure_ (i := 1) (N := some 115) (v := ?_) (a' := ?_) #[false, true, false, false, false, false, false, false, false, false, false, false, false, false, false, false, false, false, false, false, false, false, false, false, false, false, false, false, false] rfl rfl (by kernel_rfl) (fun _ _ _ h => h) (Or.inl ⟨by rfl, ?_⟩) ?_ ?_
                    rotate_left
                    · intro w'
                      go_simp
                      with_reducible rfl
                    rotate_left
                    · simp only [Act.put, List.setIfInBounds_toArray, List.set_cons_zero, List.set_cons_succ, i64_w, i32_w]
                      rfl
                    refine pure_ (i := 2) (N := some 116) (v := ?_) (a' := ?_) #[false, true, true, false, false, false, false, false, false, false, false, false, false, false, false, false, false, false, false, false, false, false, false, false, false, false, false, false, false] rfl rfl (by kernel_rfl) (fun _ _ _ h => h) (Or.inl ⟨by rfl, ?_⟩) ?_ ?_
                    rotate_left
                    · intro w'
                      go_simp
                      with_reducible rfl
                    rotate_left
                    · simp only [Act.put, List.setIfInBounds_toArray, List.set_cons_zero, List.set_cons_succ, i64_w, i32_w]
                      rfl
                    refine pure_ (i := 3) (N := some 117) (v := ?_) (a' := ?_) #[false, true, true, true, false, false, false, false, false, false, false, false, false, false, false, false, false, false, false, false, false, false, false, false, false, false, false, false, false] rfl rfl (by kernel_rfl) (fun _ _ _ h => h) (Or.inl ⟨by rfl, ?_⟩) ?_ ?_
                    rotate_left
                    · intro w'
                      go_simp
                      with_reducible rfl
                    rotate_left
                    · simp only [Act.put, List.setIfInBounds_toArray, List.set_cons_zero, List.set_cons_succ, i64_w, i32_w]
                      rfl
                    refine pure_ (i := 4) (N := some 118) (v := ?_) (a' := ?_) #[false, true, true, true, true, false, false, false, false, false, false, false, false, false, false, false, false, false, false, false, false, false, false, false, false, false, false, false, false] rfl rfl (by kernel_rfl) (fun _ _ _ h => h) (Or.inl ⟨by rfl, ?_⟩) ?_ ?_
                    rotate_left
                    · intro w'
                      go_simp
                      with_reducible rfl
                    rotate_left
                    · simp only [Act.put, List.setIfInBounds_toArray, List.set_cons_zero, List.set_cons_succ, i64_w, i32_w]
                      rfl
                    refine pure_ (i := 5) (N := some 119) (v := ?_) (a' := ?_) #[false, true, true, true, true, true, false, false, false, false, false, false, false, false, false, false, false, false, false, false, false, false, false, false, false, false, false, false, false] rfl rfl (by kernel_rfl) (fun _ _ _ h => h) (Or.inl ⟨by rfl, ?_⟩) ?_ ?_
                    rotate_left
                    · intro w'
                      go_simp
                      with_reducible rfl
                    rotate_left
                    · simp only [Act.put, List.setIfInBounds_toArray, List.set_cons_zero, List.set_cons_succ, i64_w, i32_w]
                      rfl
                    refine pure_ (i := 6) (N := some 120) (v := ?_) (a' := ?_) #[false, true, true, true, true, true, true, false, false, false, false, false, false, false, false, false, false, false, false, false, false, false, false, false, false, false, false, false, false] rfl rfl (by kernel_rfl) (fun _ _ _ h => h) (Or.inl ⟨by rfl, ?_⟩) ?_ ?_
                    rotate_left
                    · intro w'
                      go_simp
                      with_reducible rfl
                    rotate_left
                    · simp only [Act.put, List.setIfInBounds_toArray, List.set_cons_zero, List.set_cons_succ, i64_w, i32_w]
                      rfl
                    refine pure_ (i := 7) (N := some 121) (v := ?_) (a' := ?_) #[false, true, true, true, true, true, true, true, false, false, false, false, false, false, false, false, false, false, false, false, false, false, false, false, false, false, false, false, false] rfl rfl (by kernel_rfl) (fun _ _ _ h => h) (Or.inl ⟨by rfl, ?_⟩) ?_ ?_
                    rotate_left
                    · intro w'
                      go_simp
                      with_reducible rfl
                    rotate_left
                    · simp only [Act.put, List.setIfInBounds_toArray, List.set_cons_zero, List.set_cons_succ, i64_w, i32_w]
                      rfl
                    refine pure_ (i := 8) (N := some 122) (v := undef) (a' := ?_) #[false, true, true, true, true, true, true, true, true, false, false, false, false, false, false, false, false, false, false, false, false, false, false, false, false, false, false, false, false] rfl rfl (by kernel_rfl) (fun _ _ _ h => h) (Or.inr ⟨by rfl, rfl⟩) ?_ ?_
                    rotate_left
                    · simp only [Act.put, List.setIfInBounds_toArray, List.set_cons_zero, List.set_cons_succ, i64_w, i32_w]
                      rfl
                    refine pure_ (i := 9) (N := some 123) (v := undef) (a' := ?_) #[false, true, true, true, true, true, true, true, true, true, false, false, false, false, false, false, false, false, false, false, false, false, false, false, false, false, false, false, false] rfl rfl (by kernel_rfl) (fun _ _ _ h => h) (Or.inr ⟨by rfl, rfl⟩) ?_ ?_
                    rotate_left
                    · simp only [Act.put, List.setIfInBounds_toArray, List.set_cons_zero, List.set_cons_succ, i64_w, i32_w]
                      rfl
                    refine pure_ (i := 10) (N := some 124) (v := ?_) (a' := ?_) #[false, true, true, true, true, true, true, true, true, true, true, false, false, false, false, false, false, false, false, false, false, false, false, false, false, false, false, false, false] rfl rfl (by kernel_rfl) (fun _ _ _ h => h) (Or.inl ⟨by rfl, ?_⟩) ?_ ?_
                    rotate_left
                    · intro w'
                      go_simp
                      with_reducible rfl
                    rotate_left
                    · simp only [Act.put, List.setIfInBounds_toArray, List.set_cons_zero, List.set_cons_succ, i64_w, i32_w]
                      rfl
                    refine pure_ (i := 11) (N := some 125) (v := ?_) (a' := ?_) #[false, true, true, true, true, true, true, true, true, true, true, true, false, false, false, false, false, false, false, false, false, false, false, false, false, false, false, false, false] rfl rfl (by kernel_rfl) (fun _ _ _ h => h) (Or.inl ⟨by rfl, ?_⟩) ?_ ?_
                    rotate_left
                    · intro w'
                      go_simp
                      with_reducible rfl
                    rotate_left
                    · simp only [Act.put, List.setIfInBounds_toArray, List.set_cons_zero, List.set_cons_succ, i64_w, i32_w]
                      rfl
                    refine pure_ (i := 12) (N := some 126) (v := undef) (a' := ?_) #[false, true, true, true, true, true, true, true, true, true, true, true, true, false, false, false, false, false, false, false, false, false, false, false, false, false, false, false, false] rfl rfl (by kernel_rfl) (fun _ _ _ h => h) (Or.inr ⟨by rfl, rfl⟩) ?_ ?_
                    rotate_left
                    · simp only [Act.put, List.setIfInBounds_toArray, List.set_cons_zero, List.set_cons_succ, i64_w, i32_w]
                      rfl
                    refine pure_ (i := 13) (N := some 127) (v := undef) (a' := ?_) #[false, true, true, true, true, true, true, true, true, true, true, true, true, true, false, false, false, false, false, false, false, false, false, false, false, false, false, false, false] rfl rfl (by kernel_rfl) (fun _ _ _ h => h) (Or.inr ⟨by rfl, rfl⟩) ?_ ?_
                    rotate_left
                    · simp only [Act.put, List.setIfInBounds_toArray, List.set_cons_zero, List.set_cons_succ, i64_w, i32_w]
                      rfl
                    refine pure_ (i := 14) (N := some 128) (v := undef) (a' := ?_) #[false, true, true, true, true, true, true, true, true, true, true, true, true, true, true, false, false, false, false, false, false, false, false, false, false, false, false, false, false] rfl rfl (by kernel_rfl) (fun _ _ _ h => h) (Or.inr ⟨by rfl, rfl⟩) ?_ ?_
                    rotate_left
                    · simp only [Act.put, List.setIfInBounds_toArray, List.set_cons_zero, List.set_cons_succ, i64_w, i32_w]
                      rfl
                    refine pure_ (i := 15) (N := some 129) (v := undef) (a' := ?_) #[false, true, true, true, true, true, true, true, true, true, true, true, true, true, true, true, false, false, false, false, false, false, false, false, false, false, false, false, false] rfl rfl (by kernel_rfl) (fun _ _ _ h => h) (Or.inr ⟨by rfl, rfl⟩) ?_ ?_
                    rotate_left
                    · simp only [Act.put, List.setIfInBounds_toArray, List.set_cons_zero, List.set_cons_succ, i64_w, i32_w]
                      rfl
                    refine pure_ (i := 16) (N := some 130) (v := undef) (a' := ?_) #[false, true, true, true, true, true, true, true, true, true, true, true, true, true, true, true, true, false, false, false, false, false, false, false, false, false, false, false, false] rfl rfl (by kernel_rfl) (fun _ _ _ h => h) (Or.inr ⟨by rfl, rfl⟩) ?_ ?_
                    rotate_left
                    · simp only [Act.put, List.setIfInBounds_toArray, List.set_cons_zero, List.set_cons_succ, i64_w, i32_w]
                      rfl
                    refine pure_ (i := 17) (N := some 131) (v := undef) (a' := ?_) #[false, true, true, true, true, true, true, true, true, true, true, true, true, true, true, true, true, true, false, false, false, false, false, false, false, false, false, false, false] rfl rfl (by kernel_rfl) (fun _ _ _ h => h) (Or.inr ⟨by rfl, rfl⟩) ?_ ?_
                    rotate_left
                    · simp only [Act.put, List.setIfInBounds_toArray, List.set_cons_zero, List.set_cons_succ, i64_w, i32_w]
                      rfl
                    refine pure_ (i := 18) (N := some 132) (v := ?_) (a' := ?_) #[false, true, true, true, true, true, true, true, true, true, true, true, true, true, true, true, true, true, true, false, false, false, false, false, false, false, false, false, false] rfl rfl (by kernel_rfl) (fun _ _ _ h => h) (Or.inl ⟨by rfl, ?_⟩) ?_ ?_
                    rotate_left
                    · intro w'
                      go_simp
                      with_reducible rfl
                    rotate_left
                    · simp only [Act.put, List.setIfInBounds_toArray, List.set_cons_zero, List.set_cons_succ, i64_w, i32_w]
                      rfl
                    refine pure_ (i := 19) (N := some 133) (v := ?_) (a' := ?_) #[false, true, true, true, true, true, true, true, true, true, true, true, true, true, true, true, true, true, true, true, false, false, false, false, false, false, false, false, false] rfl rfl (by kernel_rfl) (fun _ _ _ h => h) (Or.inl ⟨by rfl, ?_⟩) ?_ ?_
                    rotate_left
                    · intro w'
                      go_simp
                      with_reducible rfl
                    rotate_left
                    · simp only [Act.put, List.setIfInBounds_toArray, List.set_cons_zero, List.set_cons_succ, i64_w, i32_w]
                      rfl
                    refine pure_ (i := 20) (N := some 134) (v := undef) (a' := ?_) #[false, true, true, true, true, true, true, true, true, true, true, true, true, true, true, true, true, true, true, true, true, false, false, false, false, false, false, false, false] rfl rfl (by kernel_rfl) (fun _ _ _ h => h) (Or.inr ⟨by rfl, rfl⟩) ?_ ?_
                    rotate_left
                    · simp only [Act.put, List.setIfInBounds_toArray, List.set_cons_zero, List.set_cons_succ, i64_w, i32_w]
                      rfl
                    refine pure_ (i := 21) (N := some 135) (v := undef) (a' := ?_) #[false, true, true, true, true, true, true, true, true, true, true, true, true, true, true, true, true, true, true, true, true, true, false, false, false, false, false, false, false] rfl rfl (by kernel_rfl) (fun _ _ _ h => h) (Or.inr ⟨by rfl, rfl⟩) ?_ ?_
                    rotate_left
                    · simp only [Act.put, List.setIfInBounds_toArray, List.set_cons_zero, List.set_cons_succ, i64_w, i32_w]
                      rfl
                    refine pure_ (i := 22) (N := some 136) (v := ?_) (a' := ?_) #[false, true, true, true, true, true, true, true, true, true, true, true, true, true, true, true, true, true, true, true, true, true, true, false, false, false, false, false, false] rfl rfl (by kernel_rfl) (fun _ _ _ h => h) (Or.inl ⟨by rfl, ?_⟩) ?_ ?_
                    rotate_left
                    · intro w'
                      go_simp
                      with_reducible rfl
                    rotate_left
                    · simp only [Act.put, List.setIfInBounds_toArray, List.set_cons_zero, List.set_cons_succ, i64_w, i32_w]
                      rfl
                    refine pure_ (i := 23) (N := some 137) (v := ?_) (a' := ?_) #[false, true, true, true, true, true, true, true, true, true, true, true, true, true, true, true, true, true, true, true, true, true, true, true, false, false, false, false, false] rfl rfl (by kernel_rfl) (fun _ _ _ h => h) (Or.inl ⟨by rfl, ?_⟩) ?_ ?_
                    rotate_left
                    · intro w'
                      go_simp
                      with_reducible rfl
                    rotate_left
                    · simp only [Act.put, List.setIfInBounds_toArray, List.set_cons_zero, List.set_cons_succ, i64_w, i32_w]
                      rfl
                    refine pure_ (i := 24) (N := some 138) (v := undef) (a' := ?_) #[false, true, true, true, true, true, true, true, true, true, true, true, true, true, true, true, true, true, true, true, true, true, true, true, true, false, false, false, false] rfl rfl (by kernel_rfl) (fun _ _ _ h => h) (Or.inr ⟨by rfl, rfl⟩) ?_ ?_
                    rotate_left
                    · simp only [Act.put, List.setIfInBounds_toArray, List.set_cons_zero, List.set_cons_succ, i64_w, i32_w]
                      rfl
                    refine pure_ (i := 25) (N := some 139) (v := undef) (a' := ?_) #[false, true, true, true, true, true, true, true, true, true, true, true, true, true, true, true, true, true, true, true, true, true, true, true, true, true, false, false, false] rfl rfl (by kernel_rfl) (fun _ _ _ h => h) (Or.inr ⟨by rfl, rfl⟩) ?_ ?_
                    rotate_left
                    · simp only [Act.put, List.setIfInBounds_toArray, List.set_cons_zero, List.set_cons_succ, i64_w, i32_w]
                      rfl
                    refine pure_ (i := 26) (N := some 140) (v := ?_) (a' := ?_) #[false, true, true, true, true, true, true, true, true, true, true, true, true, true, true, true, true, true, true, true, true, true, true, true, true, true, true, false, false] rfl rfl (by kernel_rfl) (fun _ _ _ h => h) (Or.inl ⟨by rfl, ?_⟩) ?_ ?_
                    rotate_left
                    · intro w'
                      go_simp
                      with_reducible rfl
                    rotate_left
                    · simp only [Act.put, List.setIfInBounds_toArray, List.set_cons_zero, List.set_cons_succ, i64_w, i32_w]
                      rfl
                    refine take_ (i := 0) (N := some 114) (v := ?_) (a' := ?_) #[true, true, true, true, true, true, true, true, true, true, true, true, true, true, true, true, true, true, true, true, true, true, true, true, true, true, true, false, false] rfl rfl (by kernel_rfl) (fun _ _ _ h => h) (Or.inl ⟨by rfl, ?_⟩) hHeld ?_ ?_
                    rotate_left
                    · rintro w' ⟨s0, s1, s2, s3, s4, s5, s6⟩
                      go_simp
                      with_reducible rfl
                    rotate_left
                    · simp only [Act.put, List.setIfInBounds_toArray, List.set_cons_zero, List.set_cons_succ, i64_w, i32_w]
                      rfl
                    refine last_ (i := 27) (N := none) #[true, true, true, true, true, true, true, true, true, true, true, true, true, true, true, true, true, true, true, true, true, true, true, true, true, true, true, true, false] rfl rfl (by kernel_rfl) (by decide) (fun K hK => ?_)
                    have HBm : Aside0 (Below w.heap.size w w15.drew) := ⟨below_drew HBn.out⟩
                    have BXm : Aside0 (w15.drew.heap[w.heap.size]? = some (.cells #[.string eS, .string eS, .string eS, .string eS, .string eS, .string eS] 32 (0, 0))) := ⟨BXn.out⟩
                    generalize w15.drew = w16 at HBm BXm ⊢
                    have hz0 := (blk_cell BXm.out 0).trans (rfl : _ = some (Value.string eS))
                    have hz1 := (blk_cell BXm.out 1).trans (rfl : _ = some (Value.string eS))
                    have hz2 := (blk_cell BXm.out 2).trans (rfl : _ = some (Value.string eS))
                    have hz3 := (blk_cell BXm.out 3).trans (rfl : _ = some (Value.string eS))
                    have hz4 := (blk_cell BXm.out 4).trans (rfl : _ = some (Value.string eS))
                    have hz5 := (blk_cell BXm.out 5).trans (rfl : _ = some (Value.string eS))
                    have hf0 := blk_frozen BXm.out 0
                    have hf1 := blk_frozen BXm.out 1
                    have hf2 := blk_frozen BXm.out 2
                    have hf3 := blk_frozen BXm.out 3
                    have hf4 := blk_frozen BXm.out 4
                    have hf5 := blk_frozen BXm.out 5
                    refine skip_ (w1 := ?_) (by rfl) rfl ?_ ?_
                    rotate_left
                    · go_simp
                      rfl
                    refine hK.out _ _ ?_
                    clear hK K
                    refine pure_ (i := 28) (N := some 3) (v := ?_) (a' := ?_) #[true, true, true, true, true, true, true, true, true, true, true, true, true, true, true, true, true, true, true, true, true, true, true, true, true, true, true, true, true] rfl rfl (by kernel_rfl) (fun _ _ _ h => h) (Or.inl ⟨by rfl, ?_⟩) ?_ ?_
                    rotate_left
                    · intro w'
                      go_simp
                      with_reducible rfl
                    rotate_left
                    · simp only [Act.put, List.setIfInBounds_toArray, List.set_cons_zero, List.set_cons_succ, i64_w, i32_w]
                      rfl
                    refine done_ (by kernel_rfl) ?_
                    go_wp2_with fail
                    refine bodyPost_ret (v := encT ⟨k, a, b, d0, sm, eS⟩ false) (by simp [results, Tryz.results33, go_sem, encT, hz0, hz1, hz2, hz3, hz4, hz5]) rfl ?_
                    exact ⟨by rw [← hr]; exact ⟨_, rfl⟩, by first | exact below_set6 HBm.out _ (Nat.le_refl _) _ _ _ _ _ _ | exact below_drew (below_set6 HBm.out _ (Nat.le_refl _) _ _ _ _ _ _)⟩
                · skip
                  have q1' : ((s1 : Int) == 1) = false := by rw [beq_eq_false_iff_ne]; omega
                  have hr := HR3.out
                  rw [if_neg (fun h => q1 h.1)] at hr
                  have Hr := Aside0.mk hr
                  clear hr q1
                  go_wp2_with fail
                  refine (atoi_any d0 (by have := K0.out.size; omega) _ (HG.out.below HB12.out)).mono ?_
                  rintro e w13 ⟨vb, eb, rfl, hb⟩
                  have HBt := Aside0.mk (below_step HB12.out hb)
                  have BKt := Aside0.mk (blk_below BK12.out hb)
                  have BXt := Aside0.mk (blk_below BX12.out hb)
                  clear hb hx3
                  go_wp2_with fail
                  refine start_ (n := 11) (S := fun w' => w'.cell? ⟨b0, o0 + 3, none⟩ = some (.string d0) ∧ w'.cell? ⟨b0, o0 + 4, none⟩ = some (.string d1)) (ds := [10]) #[false, false, false, false, false, false, false, false, false, false, false] (by kernel_rfl) rfl rfl ⟨pw_cell_below (below_drew HBt.out) D0.out, pw_cell_below (below_drew HBt.out) D1.out⟩ (fun hHeld => ?_)
                  refine pure_ (i := 0) (N := some 105) (v := ?_) (a' := ?_) #[true, false, false, false, false, false, false, false, false, false, false] rfl rfl (by kernel_rfl) (fun _ _ _ h => h) (Or.inl ⟨by rfl, ?_⟩) ?_ ?_
                  rotate_left
                  · intro w'
                    go_simp
                    with_reducible rfl
                  rotate_left
                  · simp only [Act.put, List.setIfInBounds_toArray, List.set_cons_zero, List.set_cons_succ, i64_w, i32_w]
                    rfl
                  refine pure_ (i := 1) (N := some 106) (v := ?_) (a' := ?_) #[true, true, false, false, false, false, false, false, false, false, false] rfl rfl (by kernel_rfl) (fun _ _ _ h => h) (Or.inl ⟨by rfl, ?_⟩) ?_ ?_
                  rotate_left
                  · intro w'
                    go_simp
                    with_reducible rfl
                  rotate_left
                  · simp only [Act.put, List.setIfInBounds_toArray, List.set_cons_zero, List.set_cons_succ, i64_w, i32_w]
                    rfl
                  refine pure_ (i := 3) (N := some 108) (v := ?_) (a' := ?_) #[true, true, false, true, false, false, false, false, false, false, false] rfl rfl (by kernel_rfl) (fun _ _ _ h => h) (Or.inl ⟨by rfl, ?_⟩) ?_ ?_
                  rotate_left
                  · intro w'
                    go_simp
                    with_reducible rfl
                  rotate_left
                  · simp only [Act.put, List.setIfInBounds_toArray, List.set_cons_zero, List.set_cons_succ, i64_w, i32_w]
                    rfl
                  refine pure_ (i := 4) (N := some 109) (v := ?_) (a' := ?_) #[true, true, false, true, true, false, false, false, false, false, false] rfl rfl (by kernel_rfl) (fun _ _ _ h => h) (Or.inl ⟨by rfl, ?_⟩) ?_ ?_
                  rotate_left
                  · intro w'
                    go_simp
                    with_reducible rfl
                  rotate_left
                  · simp only [Act.put, List.setIfInBounds_toArray, List.set_cons_zero, List.set_cons_succ, i64_w, i32_w]
                    rfl
                  refine take_ (i := 2) (N := some 107) (v := ?_) (a' := ?_) #[true, true, true, true, true, false, false, false, false, false, false] rfl rfl (by kernel_rfl) (fun _ _ _ h => h) (Or.inl ⟨by rfl, ?_⟩) hHeld ?_ ?_
                  rotate_left
                  · rintro w' ⟨s0, s1⟩
                    go_simp
                    with_reducible rfl
                  rotate_left
                  · simp only [Act.put, List.setIfInBounds_toArray, List.set_cons_zero, List.set_cons_succ, i64_w, i32_w]
                    rfl
                  refine pure_ (i := 7) (N := some 112) (v := ?_) (a' := ?_) #[true, true, true, true, true, false, false, true, false, false, false] rfl rfl (by kernel_rfl) (fun _ _ _ h => h) (Or.inl ⟨by rfl, ?_⟩) ?_ ?_
                  rotate_left
                  · intro w'
                    go_simp
                    with_reducible rfl
                  rotate_left
                  · simp only [Act.put, List.setIfInBounds_toArray, List.set_cons_zero, List.set_cons_succ, i64_w, i32_w]
                    rfl
                  refine take_ (i := 5) (N := some 110) (v := ?_) (a' := ?_) #[true, true, true, true, true, true, false, true, false, false, false] rfl rfl (by kernel_rfl) (fun _ _ _ h => h) (Or.inl ⟨by rfl, ?_⟩) hHeld ?_ ?_
                  rotate_left
                  · rintro w' ⟨s0, s1⟩
                    go_simp
                    with_reducible rfl
                  rotate_left
                  · simp only [Act.put, List.setIfInBounds_toArray, List.set_cons_zero, List.set_cons_succ, i64_w, i32_w]
                    rfl
                  refine one_ (i := 6) (N := some 111) #[true, true, true, true, true, true, true, true, false, false, false] rfl rfl (by kernel_rfl) (by decide) (fun K hK => ?_)
                  refine goes_ Tryz.func44 (by kernel_rfl) rfl #[.string d1] (by rfl) rfl rfl (by simp only [List.map_toArray, List.map_cons, List.map_nil]; rfl) ?_
                  with_reducible refine (someK_any d1 sm _ (HG.out.below (below_drew HBt.out)) K1.out HSm.out).mono ?_
                  rintro e w14 ⟨rfl, hb14⟩
                  refine ⟨_, rfl, ?_⟩
                  have HB14 := Aside0.mk (below_step (below_drew HBt.out) hb14)
                  have BK14 := Aside0.mk (blk_below (blk_drew BKt.out) hb14)
                  have BX14 := Aside0.mk (blk_below (blk_drew BXt.out) hb14)
                  clear hb14
                  have hy3 := (blk_cell BK14.out 3).trans (rfl : _ = some (Value.string ⟨#[]⟩))
                  have hg3 := blk_frozen BK14.out 3
                  have hy4 := (blk_cell BK14.out 4).trans (rfl : _ = some (Value.string ⟨#[]⟩))
                  have hg4 := blk_frozen BK14.out 4
                  refine hK.out _ _ ⟨pw_cell_below HB14.out D0.out, pw_cell_below HB14.out D1.out⟩ (fun hHeld => ?_)
                  clear hK K
                  refine norm_ (a' := ?_) ?_ ?_
                  rotate_left
                  · show Act.put _ (some 111) _ = _
                    simp only [Act.put, List.setIfInBounds_toArray, List.set_cons_zero, List.set_cons_succ, i64_w, i32_w]
                    rfl
                  refine one_ (i := 8) (N := none) #[true, true, true, true, true, true, true, true, true, false, false] rfl rfl (by kernel_rfl) (by decide) (fun K hK => ?_)
                  refine skip_ (w1 := ?_) (by rfl) rfl ?_ ?_
                  rotate_left
                  · go_simp
                    rfl
                  refine hK.out _ _ ⟨(cell_far hbg _).trans (pw_cell_below HB14.out D0.out), (cell_far hbg _).trans (pw_cell_below HB14.out D1.out)⟩ (fun hHeld => ?_)
                  clear hK K
                  refine pure_ (i := 9) (N := some 113) (v := ?_) (a' := ?_) #[true, true, true, true, true, true, true, true, true, true, false] rfl rfl (by kernel_rfl) (fun _ _ _ h => h) (Or.inl ⟨by rfl, ?_⟩) ?_ ?_
                  rotate_left
                  · intro w'
                    go_simp
                    with_reducible rfl
                  rotate_left
                  · simp only [Act.put, List.setIfInBounds_toArray, List.set_cons_zero, List.set_cons_succ, i64_w, i32_w]
                    rfl
                  refine last_ (i := 10) (N := none) #[true, true, true, true, true, true, true, true, true, true, true] rfl rfl (by kernel_rfl) (by decide) (fun K hK => ?_)
                  refine skip_ (w1 := ?_) (by rfl) rfl ?_ ?_
                  rotate_left
                  · go_simp
                    rfl
                  refine hK.out _ _ ?_
                  clear hK K
                  refine done_ (by kernel_rfl) ?_
                  have HBn : Aside0 (Below w.heap.size w ((w14.setCell ⟨g10, 3, none⟩ (.string d0)).setCell ⟨g10, 4, none⟩ (.string sm))) := ⟨(Below.setCell (Below.setCell HB14.out (Nat.le_of_lt hgw) _) (Nat.le_of_lt hgw) _)⟩
                  have BKn : Aside0 (((w14.setCell ⟨g10, 3, none⟩ (.string d0)).setCell ⟨g10, 4, none⟩ (.string sm)).heap[g10]? = some (.cells #[.string k, .string a, .string b, .string d0, .string sm, .string eS] 32 (0, 0))) := ⟨(blk_put (blk_put BK14.out 3 _ rfl) 4 _ rfl)⟩
                  have BXn : Aside0 (((w14.setCell ⟨g10, 3, none⟩ (.string d0)).setCell ⟨g10, 4, none⟩ (.string sm)).heap[w.heap.size]? = some (.cells #[.string eS, .string eS, .string eS, .string eS, .string eS, .string eS] 32 (0, 0))) := ⟨(blk_far (blk_far BX14.out (Nat.ne_of_lt hgw) _) (Nat.ne_of_lt hgw) _)⟩
                  generalize ((w14.setCell ⟨g10, 3, none⟩ (.string d0)).setCell ⟨g10, 4, none⟩ (.string sm)) = w15 at HBn BKn BXn ⊢
                  clear hy3 hy4 hg3 hg4 hx0
                  have hr := Hr.out
                  go_wp2_with fail
                  refine start_ (n := 29) (S := fun w' => w'.cell? ⟨g10, 0, none⟩ = some (.string k) ∧ w'.cell? ⟨g10, 1, none⟩ = some (.string a) ∧ w'.cell? ⟨g10, 2, none⟩ = some (.string b) ∧ w'.cell? ⟨g10, 3, none⟩ = some (.string d0) ∧ w'.cell? ⟨g10, 4, none⟩ = some (.string sm) ∧ w'.cell? ⟨g10, 5, none⟩ = some (.string eS) ∧ w'.cell? ⟨b0, o0 + 3, none⟩ = some (.string d0)) (ds := [27]) #[false, false, false, false, false, false, false, false, false, false, false, false, false, false, false, false, false, false, false, false, false, false, false, false, false, false, false, false, false] (by kernel_rfl) rfl rfl ⟨(blk_cell (blk_drew BKn.out) 0).trans rfl, (blk_cell (blk_drew BKn.out) 1).trans rfl, (blk_cell (blk_drew BKn.out) 2).trans rfl, (blk_cell (blk_drew BKn.out) 3).trans rfl, (blk_cell (blk_drew BKn.out) 4).trans rfl, (blk_cell (blk_drew BKn.out) 5).trans rfl, pw_cell_below (below_drew HBn.out) D0.out⟩ (fun hHeld => ?_)
                  refine pure_ (i := 1) (N := some 115) (v := ?_) (a' := ?_) #[false, true, false, false, false, false, false, false, false, false, false, false, false, false, false, false, false, false, false, false, false, false, false, false, false, false, false, false, false] rfl rfl (by kernel_rfl) (fun _ _ _ h => h) (Or.inl ⟨by rfl, ?_⟩) ?_ ?_
                  rotate_left
                  · intro w'
                    go_simp
                    with_reducible rfl
                  rotate_left
                  · simp only [Act.put, List.setIfInBounds_toArray, List.set_cons_zero, List.set_cons_succ, i64_w, i32_w]
                    rfl
                  refine pure_ (i := 2) (N := some 116) (v := ?_) (a' := ?_) #[false, true, true, false, false, false, false, false, false, false, false, false, false, false, false, false, false, false, false, false, false, false, false, false, false, false, false, false, false] rfl rfl (by kernel_rfl) (fun _ _ _ h => h) (Or.inl ⟨by rfl, ?_⟩) ?_ ?_
                  rotate_left
                  · intro w'
                    go_simp
                    with_reducible rfl
                  rotate_left
                  · simp only [Act.put, List.setIfInBounds_toArray, List.set_cons_zero, List.set_cons_succ, i64_w, i32_w]
                    rfl
                  refine pure_ (i := 3) (N := some 117) (v := ?_) (a' := ?_) #[false, true, true, true, false, false, false, false, false, false, false, false, false, false, false, false, false, false, false, false, false, false, false, false, false, false, false, false, false] rfl rfl (by kernel_rfl) (fun _ _ _ h => h) (Or.inl ⟨by rfl, ?_⟩) ?_ ?_
                  rotate_left
                  · intro w'
                    go_simp
                    with_reducible rfl
                  rotate_left
                  · simp only [Act.put, List.setIfInBounds_toArray, List.set_cons_zero, List.set_cons_succ, i64_w, i32_w]
                    rfl
                  refine pure_ (i := 4) (N := some 118) (v := undef) (a' := ?_) #[false, true, true, true, true, false, false, false, false, false, false, false, false, false, false, false, false, false, false, false, false, false, false, false, false, false, false, false, false] rfl rfl (by kernel_rfl) (fun _ _ _ h => h) (Or.inr ⟨by rfl, rfl⟩) ?_ ?_
                  rotate_left
                  · simp only [Act.put, List.setIfInBounds_toArray, List.set_cons_zero, List.set_cons_succ, i64_w, i32_w]
                    rfl
                  refine pure_ (i := 5) (N := some 119) (v := undef) (a' := ?_) #[false, true, true, true, true, true, false, false, false, false, false, false, false, false, false, false, false, false, false, false, false, false, false, false, false, false, false, false, false] rfl rfl (by kernel_rfl) (fun _ _ _ h => h) (Or.inr ⟨by rfl, rfl⟩) ?_ ?_
                  rotate_left
                  · simp only [Act.put, List.setIfInBounds_toArray, List.set_cons_zero, List.set_cons_succ, i64_w, i32_w]
                    rfl
                  refine pure_ (i := 6) (N := some 120) (v := ?_) (a' := ?_) #[false, true, true, true, true, true, true, false, false, false, false, false, false, false, false, false, false, false, false, false, false, false, false, false, false, false, false, false, false] rfl rfl (by kernel_rfl) (fun _ _ _ h => h) (Or.inl ⟨by rfl, ?_⟩) ?_ ?_
                  rotate_left
                  · intro w'
                    go_simp
                    with_reducible rfl
                  rotate_left
                  · simp only [Act.put, List.setIfInBounds_toArray, List.set_cons_zero, List.set_cons_succ, i64_w, i32_w]
                    rfl
                  refine pure_ (i := 7) (N := some 121) (v := ?_) (a' := ?_) #[false, true, true, true, true, true, true, true, false, false, false, false, false, false, false, false, false, false, false, false, false, false, false, false, false, false, false, false, false] rfl rfl (by kernel_rfl) (fun _ _ _ h => h) (Or.inl ⟨by rfl, ?_⟩) ?_ ?_
                  rotate_left
                  · intro w'
                    go_simp
                    with_reducible rfl
                  rotate_left
                  · simp only [Act.put, List.setIfInBounds_toArray, List.set_cons_zero, List.set_cons_succ, i64_w, i32_w]
                    rfl
                  refine pure_ (i := 8) (N := some 122) (v := undef) (a' := ?_) #[false, true, true, true, true, true, true, true, true, false, false, false, false, false, false, false, false, false, false, false, false, false, false, false, false, false, false, false, false] rfl rfl (by kernel_rfl) (fun _ _ _ h => h) (Or.inr ⟨by rfl, rfl⟩) ?_ ?_
                  rotate_left
                  · simp only [Act.put, List.setIfInBounds_toArray, List.set_cons_zero, List.set_cons_succ, i64_w, i32_w]
                    rfl
                  refine pure_ (i := 9) (N := some 123) (v := undef) (a' := ?_) #[false, true, true, true, true, true, true, true, true, true, false, false, false, false, false, false, false, false, false, false, false, false, false, false, false, false, false, false, false] rfl rfl (by kernel_rfl) (fun _ _ _ h => h) (Or.inr ⟨by rfl, rfl⟩) ?_ ?_
                  rotate_left
                  · simp only [Act.put, List.setIfInBounds_toArray, List.set_cons_zero, List.set_cons_succ, i64_w, i32_w]
                    rfl
                  refine pure_ (i := 10) (N := some 124) (v := ?_) (a' := ?_) #[false, true, true, true, true, true, true, true, true, true, true, false, false, false, false, false, false, false, false, false, false, false, false, false, false, false, false, false, false] rfl rfl (by kernel_rfl) (fun _ _ _ h => h) (Or.inl ⟨by rfl, ?_⟩) ?_ ?_
                  rotate_left
                  · intro w'
                    go_simp
                    with_reducible rfl
                  rotate_left
                  · simp only [Act.put, List.setIfInBounds_toArray, List.set_cons_zero, List.set_cons_succ, i64_w, i32_w]
                    rfl
                  refine pure_ (i := 11) (N := some 125) (v := ?_) (a' := ?_) #[false, true, true, true, true, true, true, true, true, true, true, true, false, false, false, false, false, false, false, false, false, false, false, false, false, false, false, false, false] rfl rfl (by kernel_rfl) (fun _ _ _ h => h) (Or.inl ⟨by rfl, ?_⟩) ?_ ?_
                  rotate_left
                  · intro w'
                    go_simp
                    with_reducible rfl
                  rotate_left
                  · simp only [Act.put, List.setIfInBounds_toArray, List.set_cons_zero, List.set_cons_succ, i64_w, i32_w]
                    rfl
                  refine pure_ (i := 12) (N := some 126) (v := undef) (a' := ?_) #[false, true, true, true, true, true, true, true, true, true, true, true, true, false, false, false, false, false, false, false, false, false, false, false, false, false, false, false, false] rfl rfl (by kernel_rfl) (fun _ _ _ h => h) (Or.inr ⟨by rfl, rfl⟩) ?_ ?_
                  rotate_left
                  · simp only [Act.put, List.setIfInBounds_toArray, List.set_cons_zero, List.set_cons_succ, i64_w, i32_w]
                    rfl
                  refine pure_ (i := 13) (N := some 127) (v := undef) (a' := ?_) #[false, true, true, true, true, true, true, true, true, true, true, true, true, true, false, false, false, false, false, false, false, false, false, false, false, false, false, false, false] rfl rfl (by kernel_rfl) (fun _ _ _ h => h) (Or.inr ⟨by rfl, rfl⟩) ?_ ?_
                  rotate_left
                  · simp only [Act.put, List.setIfInBounds_toArray, List.set_cons_zero, List.set_cons_succ, i64_w, i32_w]
                    rfl
                  refine pure_ (i := 14) (N := some 128) (v := undef) (a' := ?_) #[false, true, true, true, true, true, true, true, true, true, true, true, true, true, true, false, false, false, false, false, false, false, false, false, false, false, false, false, false] rfl rfl (by kernel_rfl) (fun _ _ _ h => h) (Or.inr ⟨by rfl, rfl⟩) ?_ ?_
                  rotate_left
                  · simp only [Act.put, List.setIfInBounds_toArray, List.set_cons_zero, List.set_cons_succ, i64_w, i32_w]
                    rfl
                  refine pure_ (i := 15) (N := some 129) (v := undef) (a' := ?_) #[false, true, true, true, true, true, true, true, true, true, true, true, true, true, true, true, false, false, false, false, false, false, false, false, false, false, false, false, false] rfl rfl (by kernel_rfl) (fun _ _ _ h => h) (Or.inr ⟨by rfl, rfl⟩) ?_ ?_
                  rotate_left
                  · simp only [Act.put, List.setIfInBounds_toArray, List.set_cons_zero, List.set_cons_succ, i64_w, i32_w]
                    rfl
                  refine pure_ (i := 16) (N := some 130) (v := undef) (a' := ?_) #[false, true, true, true, true, true, true, true, true, true, true, true, true, true, true, true, true, false, false, false, false, false, false, false, false, false, false, false, false] rfl rfl (by kernel_rfl) (fun _ _ _ h => h) (Or.inr ⟨by rfl, rfl⟩) ?_ ?_
                  rotate_left
                  · simp only [Act.put, List.setIfInBounds_toArray, List.set_cons_zero, List.set_cons_succ, i64_w, i32_w]
                    rfl
                  refine pure_ (i := 17) (N := some 131) (v := undef) (a' := ?_) #[false, true, true, true, true, true, true, true, true, true, true, true, true, true, true, true, true, true, false, false, false, false, false, false, false, false, false, false, false] rfl rfl (by kernel_rfl) (fun _ _ _ h => h) (Or.inr ⟨by rfl, rfl⟩) ?_ ?_
                  rotate_left
                  · simp only [Act.put, List.setIfInBounds_toArray, List.set_cons_zero, List.set_cons_succ, i64_w, i32_w]
                    rfl
                  refine pure_ (i := 18) (N := some 132) (v := ?_) (a' := ?_) #[false, true, true, true, true, true, true, true, true, true, true, true, true, true, true, true, true, true, true, false, false, false, false, false, false, false, false, false, false] rfl rfl (by kernel_rfl) (fun _ _ _ h => h) (Or.inl ⟨by rfl, ?_⟩) ?_ ?_
                  rotate_left
                  · intro w'
                    go_simp
                    with_reducible rfl
                  rotate_left
                  · simp only [Act.put, List.setIfInBounds_toArray, List.set_cons_zero, List.set_cons_succ, i64_w, i32_w]
                    rfl
                  refine pure_ (i := 19) (N := some 133) (v := ?_) (a' := ?_) #[false, true, true, true, true, true, true, true, true, true, true, true, true, true, true, true, true, true, true, true, false, false, false, false, false, false, false, false, false] rfl rfl (by kernel_rfl) (fun _ _ _ h => h) (Or.inl ⟨by rfl, ?_⟩) ?_ ?_
                  rotate_left
                  · intro w'
                    go_simp
                    with_reducible rfl
                  rotate_left
                  · simp only [Act.put, List.setIfInBounds_toArray, List.set_cons_zero, List.set_cons_succ, i64_w, i32_w]
                    rfl
                  refine pure_ (i := 20) (N := some 134) (v := undef) (a' := ?_) #[false, true, true, true, true, true, true, true, true, true, true, true, true, true, true, true, true, true, true, true, true, false, false, false, false, false, false, false, false] rfl rfl (by kernel_rfl) (fun _ _ _ h => h) (Or.inr ⟨by rfl, rfl⟩) ?_ ?_
                  rotate_left
                  · simp only [Act.put, List.setIfInBounds_toArray, List.set_cons_zero, List.set_cons_succ, i64_w, i32_w]
                    rfl
                  refine pure_ (i := 21) (N := some 135) (v := undef) (a' := ?_) #[false, true, true, true, true, true, true, true, true, true, true, true, true, true, true, true, true, true, true, true, true, true, false, false, false, false, false, false, false] rfl rfl (by kernel_rfl) (fun _ _ _ h => h) (Or.inr ⟨by rfl, rfl⟩) ?_ ?_
                  rotate_left
                  · simp only [Act.put, List.setIfInBounds_toArray, List.set_cons_zero, List.set_cons_succ, i64_w, i32_w]
                    rfl
                  refine pure_ (i := 22) (N := some 136) (v := ?_) (a' := ?_) #[false, true, true, true, true, true, true, true, true, true, true, true, true, true, true, true, true, true, true, true, true, true, true, false, false, false, false, false, false] rfl rfl (by kernel_rfl) (fun _ _ _ h => h) (Or.inl ⟨by rfl, ?_⟩) ?_ ?_
                  rotate_left
                  · intro w'
                    go_simp
                    with_reducible rfl
                  rotate_left
                  · simp only [Act.put, List.setIfInBounds_toArray, List.set_cons_zero, List.set_cons_succ, i64_w, i32_w]
                    rfl
                  refine pure_ (i := 23) (N := some 137) (v := ?_) (a' := ?_) #[false, true, true, true, true, true, true, true, true, true, true, true, true, true, true, true, true, true, true, true, true, true, true, true, false, false, false, false, false] rfl rfl (by kernel_rfl) (fun _ _ _ h => h) (Or.inl ⟨by rfl, ?_⟩) ?_ ?_
                  rotate_left
                  · intro w'
                    go_simp
                    with_reducible rfl
                  rotate_left
                  · simp only [Act.put, List.setIfInBounds_toArray, List.set_cons_zero, List.set_cons_succ, i64_w, i32_w]
                    rfl
                  refine pure_ (i := 24) (N := some 138) (v := undef) (a' := ?_) #[false, true, true, true, true, true, true, true, true, true, true, true, true, true, true, true, true, true, true, true, true, true, true, true, true, false, false, false, false] rfl rfl (by kernel_rfl) (fun _ _ _ h => h) (Or.inr ⟨by rfl, rfl⟩) ?_ ?_
                  rotate_left
                  · simp only [Act.put, List.setIfInBounds_toArray, List.set_cons_zero, List.set_cons_succ, i64_w, i32_w]
                    rfl
                  refine pure_ (i := 25) (N := some 139) (v := undef) (a' := ?_) #[false, true, true, true, true, true, true, true, true, true, true, true, true, true, true, true, true, true, true, true, true, true, true, true, true, true, false, false, false] rfl rfl (by kernel_rfl) (fun _ _ _ h => h) (Or.inr ⟨by rfl, rfl⟩) ?_ ?_
                  rotate_left
                  · simp only [Act.put, List.setIfInBounds_toArray, List.set_cons_zero, List.set_cons_succ, i64_w, i32_w]
                    rfl
                  refine pure_ (i := 26) (N := some 140) (v := ?_) (a' := ?_) #[false, true, true, true, true, true, true, true, true, true, true, true, true, true, true, true, true, true, true, true, true, true, true, true, true, true, true, false, false] rfl rfl (by kernel_rfl) (fun _ _ _ h => h) (Or.inl ⟨by rfl, ?_⟩) ?_ ?_
                  rotate_left
                  · intro w'
                    go_simp
                    with_reducible rfl
                  rotate_left
                  · simp only [Act.put, List.setIfInBounds_toArray, List.set_cons_zero, List.set_cons_succ, i64_w, i32_w]
                    rfl
                  refine take_ (i := 0) (N := some 114) (v := ?_) (a' := ?_) #[true, true, true, true, true, true, true, true, true, true, true, true, true, true, true, true, true, true, true, true, true, true, true, true, true, true, true, false, false] rfl rfl (by kernel_rfl) (fun _ _ _ h => h) (Or.inl ⟨by rfl, ?_⟩) hHeld ?_ ?_
                  rotate_left
                  · rintro w' ⟨s0, s1, s2, s3, s4, s5, s6⟩
                    go_simp
                    with_reducible rfl
                  rotate_left
                  · simp only [Act.put, List.setIfInBounds_toArray, List.set_cons_zero, List.set_cons_succ, i64_w, i32_w]
                    rfl
                  refine last_ (i := 27) (N := none) #[true, true, true, true, true, true, true, true, true, true, true, true, true, true, true, true, true, true, true, true, true, true, true, true, true, true, true, true, false] rfl rfl (by kernel_rfl) (by decide) (fun K hK => ?_)
                  have HBm : Aside0 (Below w.heap.size w w15.drew) := ⟨below_drew HBn.out⟩
                  have BXm : Aside0 (w15.drew.heap[w.heap.size]? = some (.cells #[.string eS, .string eS, .string eS, .string eS, .string eS, .string eS] 32 (0, 0))) := ⟨BXn.out⟩
                  generalize w15.drew = w16 at HBm BXm ⊢
                  have hz0 := (blk_cell BXm.out 0).trans (rfl : _ = some (Value.string eS))
                  have hz1 := (blk_cell BXm.out 1).trans (rfl : _ = some (Value.string eS))
                  have hz2 := (blk_cell BXm.out 2).trans (rfl : _ = some (Value.string eS))
                  have hz3 := (blk_cell BXm.out 3).trans (rfl : _ = some (Value.string eS))
                  have hz4 := (blk_cell BXm.out 4).trans (rfl : _ = some (Value.string eS))
                  have hz5 := (blk_cell BXm.out 5).trans (rfl : _ = some (Value.string eS))
                  have hf0 := blk_frozen BXm.out 0
                  have hf1 := blk_frozen BXm.out 1
                  have hf2 := blk_frozen BXm.out 2
                  have hf3 := blk_frozen BXm.out 3
                  have hf4 := blk_frozen BXm.out 4
                  have hf5 := blk_frozen BXm.out 5
                  refine skip_ (w1 := ?_) (by rfl) rfl ?_ ?_
                  rotate_left
                  · go_simp
                    rfl
                  refine hK.out _ _ ?_
                  clear hK K
                  refine pure_ (i := 28) (N := some 3) (v := ?_) (a' := ?_) #[true, true, true, true, true, true, true, true, true, true, true, true, true, true, true, true, true, true, true, true, true, true, true, true, true, true, true, true, true] rfl rfl (by kernel_rfl) (fun _ _ _ h => h) (Or.inl ⟨by rfl, ?_⟩) ?_ ?_
                  rotate_left
                  · intro w'
                    go_simp
                    with_reducible rfl
                  rotate_left
                  · simp only [Act.put, List.setIfInBounds_toArray, List.set_cons_zero, List.set_cons_succ, i64_w, i32_w]
                    rfl
                  refine done_ (by kernel_rfl) ?_
                  go_wp2_with fail
                  refine bodyPost_ret (v := encT ⟨k, a, b, d0, sm, eS⟩ false) (by simp [results, Tryz.results33, go_sem, encT, hz0, hz1, hz2, hz3, hz4, hz5]) rfl ?_
                  exact ⟨by rw [← hr]; exact ⟨_, rfl⟩, by first | exact below_set6 HBm.out _ (Nat.le_refl _) _ _ _ _ _ _ | exact below_drew (below_set6 HBm.out _ (Nat.le_refl _) _ _ _ _ _ _)⟩
              · skip
                have t2 : (k.toList == ([112, 111, 119, 101, 114] : List UInt8)) = false := by rw [str_iff]; exact decide_eq_false hk2
                by_cases hk3 : k = bPrefixed
                · skip
                  have t3 : (k.toList == ([112, 114, 101, 102, 105, 120, 101, 100] : List UInt8)) = true := by rw [str_iff]; exact decide_eq_true hk3
                  have h5 : nl = 5 := by rw [HKn.out, hk3]; rfl
                  have D0 : Aside0 (w.cell? ⟨b0, o0 + 3, none⟩ = some (.string (l2.getD 0 eS))) := ⟨HC.out 3 (by omega)⟩
                  have i3 : (3 : Int) < (nl : Int) := by omega
                  have K0 : Aside0 (TextOk (l2.getD 0 eS)) := ⟨by rw [List.getD_eq_getElem?_getD, List.getElem?_eq_getElem (by have := HL2.out; omega)]; exact HK.out _ (by simp)⟩
                  have hr := HR2.out
                  rw [if_neg hk1, if_neg hk2, if_pos hk3, ← show z = l2.getD 1 eS from by rw [HZ.out, show mn = 1 by omega], HSg.out] at hr
                  have HR3 := Aside0.mk hr
                  clear hr
                  obtain ⟨d0, hd0⟩ : ∃ x, l2.getD 0 eS = x := ⟨_, rfl⟩
                  rw [hd0] at D0 K0 HR3
                  clear hd0
                  clear h5
                  have Hk1 := Aside0.mk hk1
                  clear hk1
                  have Hk2 := Aside0.mk hk2
                  clear hk2
                  have Hk3 := Aside0.mk hk3
                  clear hk3
                  have ne1 : ¬ w.heap.size = g10 := by omega
                  have ne2 : ¬ g10 = w.heap.size := by omega
                  have hx3 := pw_cell_below HB12.out D0.out
                  have hy0 := (blk_cell BK12.out 0).trans (rfl : _ = some (Value.string k))
                  have hy1 := (blk_cell BK12.out 1).trans (rfl : _ = some (Value.string a))
                  have hy2 := (blk_cell BK12.out 2).trans (rfl : _ = some (Value.string b))
                  have hy3 := (blk_cell BK12.out 3).trans (rfl : _ = some (Value.string eS))
                  have hy4 := (blk_cell BK12.out 4).trans (rfl : _ = some (Value.string eS))
                  have hy5 := (blk_cell BK12.out 5).trans (rfl : _ = some (Value.string eS))
                  have hg3 := blk_frozen BK12.out 3
                  have hz0 := (blk_cell BX12.out 0).trans (rfl : _ = some (Value.string eS))
                  have hz1 := (blk_cell BX12.out 1).trans (rfl : _ = some (Value.string eS))
                  have hz2 := (blk_cell BX12.out 2).trans (rfl : _ = some (Value.string eS))
                  have hz3 := (blk_cell BX12.out 3).trans (rfl : _ = some (Value.string eS))
                  have hz4 := (blk_cell BX12.out 4).trans (rfl : _ = some (Value.string eS))
                  have hz5 := (blk_cell BX12.out 5).trans (rfl : _ = some (Value.string eS))
                  have hf0 := blk_frozen BX12.out 0
                  have hf1 := blk_frozen BX12.out 1
                  have hf2 := blk_frozen BX12.out 2
                  have hf3 := blk_frozen BX12.out 3
                  have hf4 := blk_frozen BX12.out 4
                  have hf5 := blk_frozen BX12.out 5
                  have HBs : Aside0 (Below w.heap.size w (w12.setCell ⟨g10, 3, none⟩ (.string d0))) := ⟨Below.setCell HB12.out (Nat.le_of_lt hgw) _⟩
                  by_cases q1 : s1 = 1
                  · by_cases q2 : s2 = 0
                    · skip
                      have q1' : ((s1 : Int) == 1) = true := by rw [beq_iff_eq]; omega
                      have q2' : ((s2 : Int) == 0) = true := by rw [beq_iff_eq]; omega
                      have hr := HR3.out
                      rw [if_pos ⟨q1, q2⟩] at hr
                      clear q1 q2
                      go_wp2_with fail
                      refine bodyPost_ret (v := encT ⟨k, a, b, d0, eS, eS⟩ true) (by simp [results, Tryz.results33, go_sem, encT, hz0, hz1, hz2, hz3, hz4, hz5]) rfl ?_
                      exact ⟨by rw [← hr]; exact rfl, by first | exact below_set6 HBs.out _ (Nat.le_refl _) _ _ _ _ _ _ | exact below_drew (below_set6 HBs.out _ (Nat.le_refl _) _ _ _ _ _ _)⟩
                    · skip
                      have q1' : ((s1 : Int) == 1) = true := by rw [beq_iff_eq]; omega
                      have q2' : ((s2 : Int) == 0) = false := by rw [beq_eq_false_iff_ne]; omega
                      have hr := HR3.out
                      rw [if_neg (fun h => q2 h.2)] at hr
                      clear q1 q2
                      go_wp2_with fail
                      refine bodyPost_ret (v := encT ⟨k, a, b, d0, eS, eS⟩ false) (by simp [results, Tryz.results33, go_sem, encT, hz0, hz1, hz2, hz3, hz4, hz5]) rfl ?_
                      exact ⟨by rw [← hr]; exact ⟨_, rfl⟩, by first | exact below_set6 HBs.out _ (Nat.le_refl _) _ _ _ _ _ _ | exact below_drew (below_set6 HBs.out _ (Nat.le_refl _) _ _ _ _ _ _)⟩
                  · skip
                    have q1' : ((s1 : Int) == 1) = false := by rw [beq_eq_false_iff_ne]; omega
                    have hr := HR3.out
                    rw [if_neg (fun h => q1 h.1)] at hr
                    clear q1
                    go_wp2_with fail
                    refine bodyPost_ret (v := encT ⟨k, a, b, d0, eS, eS⟩ false) (by simp [results, Tryz.results33, go_sem, encT, hz0, hz1, hz2, hz3, hz4, hz5]) rfl ?_
                    exact ⟨by rw [← hr]; exact ⟨_, rfl⟩, by first | exact below_set6 HBs.out _ (Nat.le_refl _) _ _ _ _ _ _ | exact below_drew (below_set6 HBs.out _ (Nat.le_refl _) _ _ _ _ _ _)⟩
                · skip
                  have t3 : (k.toList == ([112, 114, 101, 102, 105, 120, 101, 100] : List UInt8)) = false := by rw [str_iff]; exact decide_eq_false hk3
                  have h4 : nl = 4 := by
                    have h := HKn.out
                    unfold kindN at h
                    rw [if_neg hk1, if_neg hk2, if_neg hk3] at h
                    split at h
                    · exact h
                    · omega
                  have hr := HR2.out
                  rw [if_neg hk1, if_neg hk2, if_neg hk3, ← show z = l2.getD 0 eS from by rw [HZ.out, show mn = 0 by omega], HSg.out] at hr
                  have HR3 := Aside0.mk hr
                  clear hr
                  clear h4
                  have Hk1 := Aside0.mk hk1
                  clear hk1
                  have Hk2 := Aside0.mk hk2
                  clear hk2
                  have Hk3 := Aside0.mk hk3
                  clear hk3
                  have hy0 := (blk_cell BK12.out 0).trans (rfl : _ = some (Value.string k))
                  have hy1 := (blk_cell BK12.out 1).trans (rfl : _ = some (Value.string a))
                  have hy2 := (blk_cell BK12.out 2).trans (rfl : _ = some (Value.string b))
                  have hy3 := (blk_cell BK12.out 3).trans (rfl : _ = some (Value.string eS))
                  have hy4 := (blk_cell BK12.out 4).trans (rfl : _ = some (Value.string eS))
                  have hy5 := (blk_cell BK12.out 5).trans (rfl : _ = some (Value.string eS))
                  have hz0 := (blk_cell BX12.out 0).trans (rfl : _ = some (Value.string eS))
                  have hz1 := (blk_cell BX12.out 1).trans (rfl : _ = some (Value.string eS))
                  have hz2 := (blk_cell BX12.out 2).trans (rfl : _ = some (Value.string eS))
                  have hz3 := (blk_cell BX12.out 3).trans (rfl : _ = some (Value.string eS))
                  have hz4 := (blk_cell BX12.out 4).trans (rfl : _ = some (Value.string eS))
                  have hz5 := (blk_cell BX12.out 5).trans (rfl : _ = some (Value.string eS))
                  have hf0 := blk_frozen BX12.out 0
                  have hf1 := blk_frozen BX12.out 1
                  have hf2 := blk_frozen BX12.out 2
                  have hf3 := blk_frozen BX12.out 3
                  have hf4 := blk_frozen BX12.out 4
                  have hf5 := blk_frozen BX12.out 5
                  by_cases q1 : s1 = 1
                  · by_cases q2 : s2 = 1
                    · skip
                      have q1' : ((s1 : Int) == 1) = true := by rw [beq_iff_eq]; omega
                      have q2' : ((s2 : Int) == 1) = true := by rw [beq_iff_eq]; omega
                      have hr := HR3.out
                      rw [if_pos ⟨q1, q2⟩] at hr
                      clear q1 q2
                      go_wp2_with fail
                      refine bodyPost_ret (v := encT ⟨k, a, b, eS, eS, eS⟩ true) (by simp [results, Tryz.results33, go_sem, encT, hz0, hz1, hz2, hz3, hz4, hz5]) rfl ?_
                      exact ⟨by rw [← hr]; exact rfl, by first | exact below_set6 HB12.out _ (Nat.le_refl _) _ _ _ _ _ _ | exact below_drew (below_set6 HB12.out _ (Nat.le_refl _) _ _ _ _ _ _)⟩
                    · skip
                      have q1' : ((s1 : Int) == 1) = true := by rw [beq_iff_eq]; omega
                      have q2' : ((s2 : Int) == 1) = false := by rw [beq_eq_false_iff_ne]; omega
                      have hr := HR3.out
                      rw [if_neg (fun h => q2 h.2)] at hr
                      clear q1 q2
                      go_wp2_with fail
                      refine bodyPost_ret (v := encT ⟨k, a, b, eS, eS, eS⟩ false) (by simp [results, Tryz.results33, go_sem, encT, hz0, hz1, hz2, hz3, hz4, hz5]) rfl ?_
                      exact ⟨by rw [← hr]; exact ⟨_, rfl⟩, by first | exact below_set6 HB12.out _ (Nat.le_refl _) _ _ _ _ _ _ | exact below_drew (below_set6 HB12.out _ (Nat.le_refl _) _ _ _ _ _ _)⟩
                  · skip
                    have q1' : ((s1 : Int) == 1) = false := by rw [beq_eq_false_iff_ne]; omega
                    have hr := HR3.out
                    rw [if_neg (fun h => q1 h.1)] at hr
                    clear q1
                    go_wp2_with fail
                    refine bodyPost_ret (v := encT ⟨k, a, b, eS, eS, eS⟩ false) (by simp [results, Tryz.results33, go_sem, encT, hz0, hz1, hz2, hz3, hz4, hz5]) rfl ?_
                    exact ⟨by rw [← hr]; exact ⟨_, rfl⟩, by first | exact below_set6 HB12.out _ (Nat.le_refl _) _ _ _ _ _ _ | exact below_drew (below_set6 HB12.out _ (Nat.le_refl _) _ _ _ _ _ _)⟩
end Go.Proofs.YthefdpioaapomaaGreatDoor.Ext
