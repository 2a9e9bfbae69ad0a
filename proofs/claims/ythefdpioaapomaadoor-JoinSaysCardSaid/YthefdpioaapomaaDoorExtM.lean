/- (*join.Lists).row, walked by hand: a row of words is read into the lists. -/
import Derived.Test.YthefdpioaapomaaDoorExtL
import Derived.Test.YthefdpioaapomaaDoorExtA
import Derived.Test.YthefdpioaapomaaDoorPJ1
import Derived.Test.YthefdpioaapomaaDoorPA2
import Derived.WalkSpells
import Derived.WalkLawsBesides
namespace Go.Proofs.YthefdpioaapomaaDoor.Ext
set_option linter.unusedVariables false
set_option linter.unusedSimpArgs false
open Go.RowKit Go.Proofs.YthefdpioaapomaaDoorW.PrintWords Go.Proofs.YthefdpioaapomaaDoorW.PrintLast Go.Proofs.YthefdpioaapomaaDoorW.PrintMore Go.Maps Go.WideMaps Go.Proofs.YthefdpioaapomaaDoor.PA Go.Proofs.YthefdpioaapomaaDoor.PJ

abbrev c0 : ByteArray := ⟨#[123, 48, 125]⟩
abbrev c1 : ByteArray := ⟨#[123, 49, 125]⟩
abbrev widths3 : List ByteArray := [⟨#[108, 111, 110, 103]⟩, ⟨#[115, 104, 111, 114, 116]⟩, ⟨#[110, 97, 114, 114, 111, 119]⟩]
def langT (s : ByteArray) : Bool := (join_lang.f s).getD false
def widthT (s : ByteArray) : Bool := Lib.containsS widths3 s
def blankT (s : ByteArray) : ByteArray := (rows_Blank.f s).getD s
def goodT (t : ByteArray) : Bool := decide (Lib.countB t c0 = 1) && decide (Lib.countB t c1 = 1)
def textsT : List ByteArray → List ByteArray → Option (List ByteArray)
  | [], acc => some acc
  | s :: l, acc => if goodT (blankT s) = true then textsT l (acc ++ [blankT s]) else none
def rowL (fs : List (LKey × List ByteArray)) : List ByteArray → Int × List (LKey × List ByteArray)
  | a :: b :: l => if l.length = 4 ∧ langT a = true ∧ widthT b = true then
      match textsT l [] with
      | none => (2, fs)
      | some ts => match getF fs (a, b) with
        | some _ => (10, fs)
        | none => (0, ((a, b), ts) :: fs)
    else (2, fs)
  | _ => (2, fs)
/-- What a word must be, that its readings are told. -/
structure WordOk (s : ByteArray) : Prop where
  size : s.size ≤ maxLen
  lang : (join_lang.f s).isSome = true
  blank : (rows_Blank.f s).isSome = true
  short : (blankT s).size < 4294967281
theorem lang_any (a : ByteArray) (x : Bool) (w : World) (hG : Glob w) (hs : WordOk a) (h : langT a = x) : Calls Tryd.prog 118 #[.string a] w fun e w' => e = .returned (.bool x) ∧ Below w.heap.size w w' := by
  obtain ⟨y, hy⟩ := Option.isSome_iff_exists.1 hs.lang
  have : y = x := by rw [← h]; unfold langT; rw [hy]; rfl
  subst this
  exact join_lang.calls a y w hy hG
theorem blankL_any (s t : ByteArray) (w : World) (hG : Glob w) (hs : WordOk s) (h : blankT s = t) : Calls Tryd.prog 26 #[.string s] w fun e w' => e = .returned (.string t) ∧ Below w.heap.size w w' := by
  obtain ⟨y, hy⟩ := Option.isSome_iff_exists.1 hs.blank
  have : y = t := by rw [← h]; unfold blankT; rw [hy]; rfl
  subst this
  exact rows_Blank.calls s y w hy hG
theorem litM (w : World) (xs : List ByteArray) (hm : xs.length ≤ 9223372036854775807) : Kd.C Kd.string (w.alloc (.cells (xs.map Value.string).toArray 9)) (some ⟨w.heap.size, 0, none⟩) xs.length xs :=
  (Kd.R_reads' (newStrs w 0 (Nat.zero_le _) xs hm)).2.2
theorem width_any (b : ByteArray) (x : Bool) (w : World) (hG : Glob w) (h : widthT b = x) :
    Calls Tryd.prog 108 #[.slice (some ⟨w.heap.size, 0, none⟩) 3 3, .string b] (w.alloc (.cells #[.string ⟨#[108, 111, 110, 103]⟩, .string ⟨#[115, 104, 111, 114, 116]⟩, .string ⟨#[110, 97, 114, 114, 111, 119]⟩] 9)) fun e w' => e = .returned (.bool x) ∧ Below w.heap.size w w' := by
  refine (slices_Contains.calls _ 3 widths3 b x _ (litM w widths3 (by decide)) (Nat.le_refl _) (by rw [← h]; rfl) (hG.alloc _)).mono ?_
  rintro e w' ⟨rfl, ⟨nd, rfl⟩⟩
  exact ⟨rfl, pw_below_drewN (below_alloc (Below.refl _ _) _) nd⟩
theorem count_any (t c : ByteArray) (x : Nat) (w : World) (hG : Glob w) (ht : t.size < 4294967281) (hc : 2 ≤ c.size) (h : Lib.countB t c = x) : Calls Tryd.prog 119 #[.string t, .string c] w fun e w' => e = .returned (.int .i64 x) ∧ w' = w := by
  obtain ⟨m, hm⟩ := hG
  subst h
  exact Tryd.strings_Count t c m w ht hm hc
theorem grown_of_below {w w' : World} {row : Option Nat} (h : Below w.heap.size w w') : w.grownBy w' row := ⟨h.os, h.tape, h.output, h.size, fun i hi _ => h.block i hi⟩
theorem grown_trans {w W w' : World} {row : Option Nat} (hb : Below w.heap.size w W) (hg : W.grownBy w' row) : w.grownBy w' row :=
  ⟨hg.os.trans hb.os, hg.tape.trans hb.tape, hg.output.trans hb.output, Nat.le_trans hb.size hg.size, fun i hi hne => (hg.block i (Nat.lt_of_lt_of_le hi hb.size) hne).trans (hb.block i hi)⟩
theorem row_out {w w' : World} {B M n : Nat} {fs : List (LKey × List ByteArray)} (hL : ListsAt w B M n fs) (hb : Below w.heap.size w w') : ListsAt w' B M (n + 1) fs ∧ w.grownBy w' (some M) := ⟨(hL.below hb).mono (Nat.le_succ _), grown_of_below hb⟩
theorem rowL_bad {fs : List (LKey × List ByteArray)} : ∀ {ws : List ByteArray}, ws.length ≠ 6 → rowL fs ws = (2, fs)
  | [], _ => rfl
  | [_], _ => rfl
  | a :: b :: l, h => by
    rw [rowL, if_neg]
    simp only [List.length_cons] at h
    omega
theorem rowL_no {fs : List (LKey × List ByteArray)} {a b : ByteArray} {l : List ByteArray} (h : ¬ (langT a = true ∧ widthT b = true)) : rowL fs (a :: b :: l) = (2, fs) := by
  rw [rowL, if_neg]
  exact fun q => h q.2
theorem rowL_none {fs : List (LKey × List ByteArray)} {a b : ByteArray} {l : List ByteArray} (h : textsT l [] = none) : rowL fs (a :: b :: l) = (2, fs) := by
  rw [rowL, h]
  simp
theorem rowL_some {fs : List (LKey × List ByteArray)} {a b : ByteArray} {l ts : List ByteArray} (hl : l.length = 4) (ha : langT a = true) (hb : widthT b = true) (h : textsT l [] = some ts) : rowL fs (a :: b :: l) = (match getF fs (a, b) with | some _ => (10, fs) | none => (0, ((a, b), ts) :: fs)) := by
  rw [rowL, if_pos ⟨hl, ha, hb⟩, h]
set_option maxHeartbeats 4000000 in
set_option maxRecDepth 100000 in
theorem row_any (fs : List (LKey × List ByteArray)) (ws : List ByteArray) (n B M c : Nat) (A : Option Addr) (w : World) (hG : Glob w) (hL : ListsAt w B M n fs) (hC : Kd.C Kd.string w A ws.length ws) (hc : ws.length ≤ c) (hok : ∀ s ∈ ws, WordOk s) (hn : n < maxLen) :
    Calls Tryd.prog 89 #[.pointer (some ⟨B, 0, none⟩), .slice A ws.length c] w fun e w' => e = .returned (.int .i64 (rowL fs ws).1) ∧ ListsAt w' B M (n + 1) (rowL fs ws).2 ∧ w.grownBy w' (some M) := by
  have hm : ws.length ≤ 9223372036854775807 := hC.2.1
  have HL := Aside0.mk hL
  have HG := Aside0.mk hG
  have HC := Aside0.mk hC
  have HK := Aside0.mk hok
  clear hL hG hC hok
  obtain ⟨lw, hlw⟩ : ∃ m, m = ws.length := ⟨_, rfl⟩
  rw [← hlw] at hc hm
  rw [← hlw]
  have HLw := Aside0.mk hlw
  clear hlw
  go_enter Tryd.func89, Tryd.ntmps89
  by_cases h6 : lw = 6
  case neg =>
    have f1 : decide ((lw : Int) = 6) = false := decide_eq_false (by omega)
    have f2 : ((lw : Int) == 6) = false := by simp; omega
    have f3 : ((lw : Int) != 6) = true := by simp; omega
    go_wp2_with fail
    go_ret
    have hr : rowL fs ws = (2, fs) := rowL_bad (by have := HLw.out; omega)
    rw [hr]
    exact ⟨rfl, row_out HL.out (by first | exact Below.refl _ _ | exact below_drew (Below.refl _ _))⟩
  case pos =>
    subst h6
    obtain ⟨a, b, l, rfl, hl4⟩ : ∃ a b l, ws = a :: b :: l ∧ l.length = 4 := by
      have := HLw.out
      rcases ws with _ | ⟨a, _ | ⟨b, l⟩⟩
      · cases this
      · cases this
      · exact ⟨a, b, l, rfl, by simp only [List.length_cons] at this; omega⟩
    obtain ⟨bk, o, rfl, hcs⟩ := C_strsD HC.out (by simp)
    have HCs := Aside0.mk hcs
    clear hcs
    have hx0 : w.cell? ⟨bk, o, none⟩ = some (.string a) := HCs.out 0 (by simp)
    have HX0 := Aside0.mk hx0
    have HX1 : Aside0 (w.cell? ⟨bk, o + 1, none⟩ = some (.string b)) := ⟨HCs.out 1 (by simp)⟩
    obtain ⟨la, hla⟩ : ∃ x, langT a = x := ⟨_, rfl⟩
    go_wp2_with fail
    refine (lang_any a la w HG.out (HK.out a (by simp)) hla).mono ?_
    rintro e w1 ⟨rfl, hb⟩
    have HB := Aside0.mk hb
    clear hb hx0
    cases la with
    | false =>
      go_wp2_with fail
      go_ret
      rw [rowL_no (by rw [hla]; simp)]
      exact ⟨rfl, row_out HL.out HB.out⟩
    | true =>
      have hx1 : ∀ o2, (w1.alloc o2).cell? ⟨bk, o + 1, none⟩ = some (.string b) := fun o2 => pw_cell_below (below_alloc HB.out o2) HX1.out
      obtain ⟨lb, hlb⟩ : ∃ x, widthT b = x := ⟨_, rfl⟩
      go_wp2_with fail
      refine (width_any b lb w1 (HG.out.below HB.out) hlb).mono ?_
      rintro e w2 ⟨rfl, hb⟩
      replace HB := Aside0.mk (below_step HB.out hb)
      clear hb hx1
      cases lb with
      | false =>
        go_wp2_with fail
        go_ret
        rw [rowL_no (by rw [hlb]; simp)]
        exact ⟨rfl, row_out HL.out HB.out⟩
      | true =>
        go_wp2_with fail
        have HLa := Aside0.mk hla
        have HLb := Aside0.mk hlb
        have HL4 := Aside0.mk hl4
        clear hla hlb hl4
        go_loopw [5, 30] (fun v i wr => ∃ (k : Nat) (acc : List ByteArray), k ≤ 4 ∧ i = .int .i64 k ∧ Aside0 (textsT (l.drop k) acc = textsT l []) ∧ Aside0 (acc.length = k) ∧ Aside0 (Kd.R Kd.string 9 wr w.heap.size (fun _ => True) v acc) ∧ Aside0 (Below w.heap.size w wr)) (fun _ i _ => 4 - (intOf i).toNat)
        case atStart => exact ⟨0, [], Nat.zero_le _, rfl, ⟨rfl⟩, ⟨rfl⟩, ⟨Kd.R_nil _ _ _ _ _⟩, HB⟩
        case round =>
          obtain ⟨k, acc, hk, rfl, HT, HA, HO, HBr⟩ := hrel
          rename_i wr
          by_cases hlt : k < 4
          · have hki : (k : Int) < 4 := by omega
            have hk0 : (0 : Int) ≤ (k : Int) := by omega
            have hT := HT.out
            rw [List.drop_eq_getElem_cons (by have := HL4.out; omega)] at hT
            have hxk := HCs.out (2 + k) (by have := HL4.out; simp only [List.length_cons]; omega)
            have hkl : k < l.length := by have := HL4.out; omega
            have hge : (a :: b :: l).getD (2 + k) ByteArray.empty = l[k] := by
              rw [show 2 + k = k + 1 + 1 by omega, List.getD_cons_succ, List.getD_cons_succ, List.getD_eq_getElem?_getD, List.getElem?_eq_getElem hkl]
              rfl
            rw [hge, ← Nat.add_assoc] at hxk
            have HKs : Aside0 (WordOk l[k]) := ⟨HK.out _ (List.mem_cons_of_mem _ (List.mem_cons_of_mem _ (List.getElem_mem hkl)))⟩
            generalize l[k] = s at hT hxk HKs
            have hx := pw_cell_below HBr.out hxk
            rw [textsT] at hT
            obtain ⟨t, ht⟩ : ∃ t, blankT s = t := ⟨_, rfl⟩
            rw [ht] at hT
            have HT2 := Aside0.mk hT
            have HTs : Aside0 (t.size < 4294967281) := ⟨ht ▸ HKs.out.short⟩
            have Ht := Aside0.mk ht
            clear hT hxk hge ht hkl HT
            go_wp2_with fail
            refine (blankL_any s t _ (HG.out.below HBr.out) HKs.out Ht.out).mono ?_
            rintro e w3 ⟨rfl, hb⟩
            have HO3 := Aside0.mk (Kd.R_below HO.out hb)
            have HB3 := Aside0.mk (below_step HBr.out hb)
            clear hb hx HO HBr
            obtain ⟨n0, h0⟩ : ∃ x, Lib.countB t c0 = x := ⟨_, rfl⟩
            have H0 := Aside0.mk h0
            clear h0
            go_wp2_with fail
            refine (count_any t _ n0 _ (HG.out.below HB3.out) HTs.out (by decide) H0.out).mono ?_
            rintro e w4 ⟨rfl, rfl⟩
            by_cases hn0 : n0 = 1
            · subst hn0
              obtain ⟨n1, h1⟩ : ∃ x, Lib.countB t c1 = x := ⟨_, rfl⟩
              have H1 := Aside0.mk h1
              clear h1
              go_wp2_with fail
              refine (count_any t _ n1 _ (HG.out.below HB3.out) HTs.out (by decide) H1.out).mono ?_
              rintro e w5 ⟨rfl, rfl⟩
              by_cases hn1 : n1 = 1
              · subst hn1
                have HT3 : Aside0 (textsT (l.drop (k + 1)) (acc ++ [t]) = textsT l []) := ⟨by rw [← HT2.out, if_pos]; unfold goodT; rw [H0.out, H1.out]; rfl⟩
                go_wp2_with (first | ((with_reducible refine gate_builtin (b := .append) (xs := #[.tmp 44, .tmp 46]) rfl ?_); at_builtin; refine Kd.R_append Kd.string (w0 := w) w.heap.size rfl (.tmp 44) (.tmp 46) 29 9 (.string ⟨#[]⟩) 16 rfl Tryd.underlying29 PA.info9 rfl (by decide) (by omega) u5 acc t [.string t] (fun _ => True) (fun _ => False) rfl rfl ?aP (fun _ hk => hk.elim) ?aF ?aO ?aB ?aS ?aL ?_; (case aP => exact rfl); (case aB => exact HB3.out); (case aF => exact (fun _ _ => trivial)); (case aO => exact HO3.out); (case aS => exact (below_size HB3.out)); (case aL => have := HA.out; omega); intro v1 w5 ho hb hg hat; have HO5 := Aside0.mk ho; have HB5 := Aside0.mk hb; clear ho hb hg hat))
                go_roundw
                case rel => exact ⟨k + 1, acc ++ [t], by omega, by go_num, HT3, ⟨by rw [List.length_append, HA.out]; rfl⟩, HO5, HB5⟩
                case measure => simp [intOf]; omega
              · have f1 : decide ((n1 : Int) = 1) = false := decide_eq_false (by omega)
                have f2 : ((n1 : Int) == 1) = false := by simp; omega
                have f3 : ((n1 : Int) != 1) = true := by simp; omega
                go_wp2_with fail
                go_ret
                rw [rowL_none (by rw [← HT2.out, if_neg]; unfold goodT; rw [H1.out]; simp [hn1])]
                exact ⟨rfl, row_out HL.out HB3.out⟩
            · have f1 : decide ((n0 : Int) = 1) = false := decide_eq_false (by omega)
              have f2 : ((n0 : Int) == 1) = false := by simp; omega
              have f3 : ((n0 : Int) != 1) = true := by simp; omega
              go_wp2_with fail
              go_ret
              rw [rowL_none (by rw [← HT2.out, if_neg]; unfold goodT; rw [H0.out]; simp [hn0])]
              exact ⟨rfl, row_out HL.out HB3.out⟩
          · obtain rfl : k = 4 := by omega
            have HTS : Aside0 (textsT l [] = some acc) := ⟨by rw [← HT.out, List.drop_of_length_le (by rw [HL4.out]; exact Nat.le_refl _)]; rfl⟩
            clear HT
            go_wp2_with fail
            have HOw := Aside0.mk (Kd.R_drew HO.out)
            have HW := Aside0.mk (below_drew HBr.out)
            clear HB
            refine start_ (n := 9) (S := fun w' => w'.cell? ⟨bk, o, none⟩ = some (.string a) ∧ w'.cell? ⟨bk, o + 1, none⟩ = some (.string b)) (ds := []) #[false, false, false, false, false, false, false, false, false] (by kernel_rfl) rfl rfl ⟨pw_cell_below HW.out HX0.out, pw_cell_below HW.out HX1.out⟩ (fun hHeld => ?_)
            refine pure_ (i := 0) (N := some 49) (v := ?_) (a' := ?_) #[true, false, false, false, false, false, false, false, false] rfl rfl (by kernel_rfl) (fun _ _ _ h => h) (Or.inl ⟨by rfl, ?_⟩) ?_ ?_
            rotate_left
            · intro w'
              go_simp
              with_reducible rfl
            rotate_left
            · simp only [Act.put, List.setIfInBounds_toArray, List.set_cons_zero, List.set_cons_succ, i64_w, i32_w]
              rfl
            refine pure_ (i := 1) (N := some 50) (v := ?_) (a' := ?_) #[true, true, false, false, false, false, false, false, false] rfl rfl (by kernel_rfl) (fun _ _ _ h => h) (Or.inl ⟨by rfl, ?_⟩) ?_ ?_
            rotate_left
            · intro w'
              go_simp
              with_reducible rfl
            rotate_left
            · simp only [Act.put, List.setIfInBounds_toArray, List.set_cons_zero, List.set_cons_succ, i64_w, i32_w]
              rfl
            refine pure_ (i := 3) (N := some 52) (v := ?_) (a' := ?_) #[true, true, false, true, false, false, false, false, false] rfl rfl (by kernel_rfl) (fun _ _ _ h => h) (Or.inl ⟨by rfl, ?_⟩) ?_ ?_
            rotate_left
            · intro w'
              go_simp
              with_reducible rfl
            rotate_left
            · simp only [Act.put, List.setIfInBounds_toArray, List.set_cons_zero, List.set_cons_succ, i64_w, i32_w]
              rfl
            refine pure_ (i := 4) (N := some 53) (v := ?_) (a' := ?_) #[true, true, false, true, true, false, false, false, false] rfl rfl (by kernel_rfl) (fun _ _ _ h => h) (Or.inl ⟨by rfl, ?_⟩) ?_ ?_
            rotate_left
            · intro w'
              go_simp
              with_reducible rfl
            rotate_left
            · simp only [Act.put, List.setIfInBounds_toArray, List.set_cons_zero, List.set_cons_succ, i64_w, i32_w]
              rfl
            refine take_ (i := 2) (N := some 51) (v := ?_) (a' := ?_) #[true, true, true, true, true, false, false, false, false] rfl rfl (by kernel_rfl) (fun _ _ _ h => h) (Or.inl ⟨by rfl, ?_⟩) hHeld ?_ ?_
            rotate_left
            · rintro w' ⟨s0, s1⟩
              go_simp
              with_reducible rfl
            rotate_left
            · simp only [Act.put, List.setIfInBounds_toArray, List.set_cons_zero, List.set_cons_succ, i64_w, i32_w]
              rfl
            refine take_ (i := 5) (N := some 54) (v := ?_) (a' := ?_) #[true, true, true, true, true, true, false, false, false] rfl rfl (by kernel_rfl) (fun _ _ _ h => h) (Or.inl ⟨by rfl, ?_⟩) hHeld ?_ ?_
            rotate_left
            · rintro w' ⟨s0, s1⟩
              go_simp
              with_reducible rfl
            rotate_left
            · simp only [Act.put, List.setIfInBounds_toArray, List.set_cons_zero, List.set_cons_succ, i64_w, i32_w]
              rfl
            refine pure_ (i := 6) (N := some 55) (v := ?_) (a' := ?_) #[true, true, true, true, true, true, true, false, false] rfl rfl (by kernel_rfl) (fun _ _ _ h => h) (Or.inl ⟨by rfl, ?_⟩) ?_ ?_
            rotate_left
            · intro w'
              go_simp
              with_reducible rfl
            rotate_left
            · simp only [Act.put, List.setIfInBounds_toArray, List.set_cons_zero, List.set_cons_succ, i64_w, i32_w]
              rfl
            refine one_ (i := 7) (N := some 8) #[true, true, true, true, true, true, true, true, false] rfl rfl (by kernel_rfl) (by decide) (fun K hK => ?_)
            refine value_ (w1 := ?_) (v := ?_) (by rfl) rfl ?_ ?_
            rotate_left 2
            · go_simp
              constructor
              · rfl
              · rfl
            have HO2 : Aside0 (∀ o2, Kd.R Kd.string 9 (wr.drew.alloc o2) w.heap.size (fun _ => True) u5 acc) := ⟨fun o2 => Kd.R_below HOw.out (below_alloc (Below.refl _ _) o2)⟩
            have HW2 : Aside0 (∀ o2, Below w.heap.size w (wr.drew.alloc o2)) := ⟨fun o2 => below_alloc HW.out o2⟩
            refine hK.out _ _ ⟨pw_cell_below (HW2.out _) HX0.out, pw_cell_below (HW2.out _) HX1.out⟩ (fun hHeld => ?_)
            clear hK K
            refine norm_ (a' := ?_) ?_ ?_
            rotate_left
            · show Act.put _ (some 8) _ = _
              simp only [Act.put, List.setIfInBounds_toArray, List.set_cons_zero, List.set_cons_succ, i64_w, i32_w]
              rfl
            refine one_ (i := 8) (N := none) #[true, true, true, true, true, true, true, true, true] rfl rfl (by kernel_rfl) (by decide) (fun K hK => ?_)
            refine skip_ (w1 := ?_) (by rfl) rfl ?_ ?_
            rotate_left
            · go_simp
              rfl
            have HW5 : Aside0 (Below w.heap.size w ((wr.alloc (.cells #[.string a, .string b] 117)).drew)) := ⟨below_drew (below_alloc HBr.out _)⟩
            have HO5 : Aside0 (Kd.R Kd.string 9 ((wr.alloc (.cells #[.string a, .string b] 117)).drew) w.heap.size (fun _ => True) u5 acc) := ⟨Kd.R_drew (Kd.R_below HO.out (below_alloc (Below.refl _ _) _))⟩
            have BK5 : Aside0 (((wr.alloc (.cells #[.string a, .string b] 117)).drew).heap[wr.heap.size]? = some (.cells #[.string a, .string b] 117 (0, 0))) := ⟨blk_new wr _⟩
            generalize wr.heap.size = g5 at BK5 ⊢
            change K _ ((wr.alloc (.cells #[.string a, .string b] 117)).drew)
            generalize ((wr.alloc (.cells #[.string a, .string b] 117)).drew) = w5 at HW5 HO5 BK5 ⊢
            refine hK.out _ _ ⟨pw_cell_below HW5.out HX0.out, pw_cell_below HW5.out HX1.out⟩ (fun hHeld => ?_)
            clear hK K
            refine done_ (by kernel_rfl) ?_
            go_wp2_with fail
            obtain ⟨vl, hrun, hres⟩ := HL.out.look (HK.out a (by simp)).size (HK.out b (by simp)).size
            have HRun := Aside0.mk (hrun _ (below_drew HW5.out))
            have HRes := Aside0.mk hres
            clear hrun hres
            have HM13 : Aside0 (w5.drew.cell? ⟨B, 0, none⟩ = some (.map (some M))) := ⟨pw_cell_below (below_drew HW5.out) (blk_cell HL.out.blk 0)⟩
            have HA13 : Aside0 (w5.drew.cell? ⟨g5, 0, none⟩ = some (.string a)) := ⟨blk_cell (blk_drew BK5.out) 0⟩
            have HB13 : Aside0 (w5.drew.cell? ⟨g5, 1, none⟩ = some (.string b)) := ⟨blk_cell (blk_drew BK5.out) 1⟩
            rcases HRes.out with ⟨rfl, hget⟩ | ⟨xs, hget, ad5, c5, rfl, hc5, hC5⟩
            case inr =>
              have HGet := Aside0.mk hget
              clear hget hc5 hC5 HRes
              refine start_ (n := 7) (S := fun w' => w'.cell? ⟨B, 0, none⟩ = some (.map (some M)) ∧ w'.cell? ⟨g5, 0, none⟩ = some (.string a) ∧ w'.cell? ⟨g5, 1, none⟩ = some (.string b)) (ds := []) #[false, false, false, false, false, false, false] (by kernel_rfl) rfl rfl ⟨HM13.out, HA13.out, HB13.out⟩ (fun hHeld => ?_)
              refine pure_ (i := 0) (N := some 56) (v := ?_) (a' := ?_) #[true, false, false, false, false, false, false] rfl rfl (by kernel_rfl) (fun _ _ _ h => h) (Or.inl ⟨by rfl, ?_⟩) ?_ ?_
              rotate_left
              · intro w'
                go_simp
                with_reducible rfl
              rotate_left
              · simp only [Act.put, List.setIfInBounds_toArray, List.set_cons_zero, List.set_cons_succ, i64_w, i32_w]
                rfl
              refine pure_ (i := 1) (N := some 57) (v := ?_) (a' := ?_) #[true, true, false, false, false, false, false] rfl rfl (by kernel_rfl) (fun _ _ _ h => h) (Or.inl ⟨by rfl, ?_⟩) ?_ ?_
              rotate_left
              · intro w'
                go_simp
                with_reducible rfl
              rotate_left
              · simp only [Act.put, List.setIfInBounds_toArray, List.set_cons_zero, List.set_cons_succ, i64_w, i32_w]
                rfl
              refine pure_ (i := 2) (N := some 58) (v := ?_) (a' := ?_) #[true, true, true, false, false, false, false] rfl rfl (by kernel_rfl) (fun _ _ _ h => h) (Or.inl ⟨by rfl, ?_⟩) ?_ ?_
              rotate_left
              · intro w'
                go_simp
                with_reducible rfl
              rotate_left
              · simp only [Act.put, List.setIfInBounds_toArray, List.set_cons_zero, List.set_cons_succ, i64_w, i32_w]
                rfl
              refine take_ (i := 3) (N := some 59) (v := ?_) (a' := ?_) #[true, true, true, true, false, false, false] rfl rfl (by kernel_rfl) (fun _ _ _ h => h) (Or.inl ⟨by rfl, ?_⟩) hHeld ?_ ?_
              rotate_left
              · rintro w' ⟨s0, s1, s2⟩
                go_simp
                with_reducible rfl
              rotate_left
              · simp only [Act.put, List.setIfInBounds_toArray, List.set_cons_zero, List.set_cons_succ, i64_w, i32_w]
                rfl
              refine take_ (i := 4) (N := some 60) (v := ?_) (a' := ?_) #[true, true, true, true, true, false, false] rfl rfl (by kernel_rfl) (fun _ _ _ h => h) (Or.inl ⟨by rfl, ?_⟩) hHeld ?_ ?_
              rotate_left
              · rintro w' ⟨s0, s1, s2⟩
                go_simp
                with_reducible rfl
              rotate_left
              · simp only [Act.put, List.setIfInBounds_toArray, List.set_cons_zero, List.set_cons_succ, i64_w, i32_w]
                rfl
              refine one_ (i := 5) (N := some 61) #[true, true, true, true, true, true, false] rfl rfl (by kernel_rfl) (by decide) (fun K hK => ?_)
              refine value_ (w1 := w5.drew) (v := .slice (some ad5) xs.length c5) (by rfl) rfl ?_ ?_
              · have hr := HRun.out
                go_simp
              refine hK.out _ _ ⟨HM13.out, HA13.out, HB13.out⟩ (fun hHeld => ?_)
              clear hK K
              refine norm_ (a' := ?_) ?_ ?_
              rotate_left
              · show Act.put _ (some 61) _ = _
                simp only [Act.put, List.setIfInBounds_toArray, List.set_cons_zero, List.set_cons_succ, i64_w, i32_w]
                rfl
              refine pure_ (i := 6) (N := some 62) (v := ?_) (a' := ?_) #[true, true, true, true, true, true, true] rfl rfl (by kernel_rfl) (fun _ _ _ h => h) (Or.inl ⟨by rfl, ?_⟩) ?_ ?_
              rotate_left
              · intro w'
                go_simp
                with_reducible rfl
              rotate_left
              · simp only [Act.put, List.setIfInBounds_toArray, List.set_cons_zero, List.set_cons_succ, i64_w, i32_w]
                rfl
              refine done_ (by kernel_rfl) ?_
              go_wp2_with fail
              go_ret
              have hs := rowL_some (fs := fs) HL4.out HLa.out HLb.out HTS.out
              rw [HGet.out] at hs
              rw [hs]
              exact ⟨rfl, row_out HL.out (below_drew HW5.out)⟩
            case inl =>
              have HGet := Aside0.mk hget
              clear hget HRes
              refine start_ (n := 7) (S := fun w' => w'.cell? ⟨B, 0, none⟩ = some (.map (some M)) ∧ w'.cell? ⟨g5, 0, none⟩ = some (.string a) ∧ w'.cell? ⟨g5, 1, none⟩ = some (.string b)) (ds := []) #[false, false, false, false, false, false, false] (by kernel_rfl) rfl rfl ⟨HM13.out, HA13.out, HB13.out⟩ (fun hHeld => ?_)
              refine pure_ (i := 0) (N := some 56) (v := ?_) (a' := ?_) #[true, false, false, false, false, false, false] rfl rfl (by kernel_rfl) (fun _ _ _ h => h) (Or.inl ⟨by rfl, ?_⟩) ?_ ?_
              rotate_left
              · intro w'
                go_simp
                with_reducible rfl
              rotate_left
              · simp only [Act.put, List.setIfInBounds_toArray, List.set_cons_zero, List.set_cons_succ, i64_w, i32_w]
                rfl
              refine pure_ (i := 1) (N := some 57) (v := ?_) (a' := ?_) #[true, true, false, false, false, false, false] rfl rfl (by kernel_rfl) (fun _ _ _ h => h) (Or.inl ⟨by rfl, ?_⟩) ?_ ?_
              rotate_left
              · intro w'
                go_simp
                with_reducible rfl
              rotate_left
              · simp only [Act.put, List.setIfInBounds_toArray, List.set_cons_zero, List.set_cons_succ, i64_w, i32_w]
                rfl
              refine pure_ (i := 2) (N := some 58) (v := ?_) (a' := ?_) #[true, true, true, false, false, false, false] rfl rfl (by kernel_rfl) (fun _ _ _ h => h) (Or.inl ⟨by rfl, ?_⟩) ?_ ?_
              rotate_left
              · intro w'
                go_simp
                with_reducible rfl
              rotate_left
              · simp only [Act.put, List.setIfInBounds_toArray, List.set_cons_zero, List.set_cons_succ, i64_w, i32_w]
                rfl
              refine take_ (i := 3) (N := some 59) (v := ?_) (a' := ?_) #[true, true, true, true, false, false, false] rfl rfl (by kernel_rfl) (fun _ _ _ h => h) (Or.inl ⟨by rfl, ?_⟩) hHeld ?_ ?_
              rotate_left
              · rintro w' ⟨s0, s1, s2⟩
                go_simp
                with_reducible rfl
              rotate_left
              · simp only [Act.put, List.setIfInBounds_toArray, List.set_cons_zero, List.set_cons_succ, i64_w, i32_w]
                rfl
              refine take_ (i := 4) (N := some 60) (v := ?_) (a' := ?_) #[true, true, true, true, true, false, false] rfl rfl (by kernel_rfl) (fun _ _ _ h => h) (Or.inl ⟨by rfl, ?_⟩) hHeld ?_ ?_
              rotate_left
              · rintro w' ⟨s0, s1, s2⟩
                go_simp
                with_reducible rfl
              rotate_left
              · simp only [Act.put, List.setIfInBounds_toArray, List.set_cons_zero, List.set_cons_succ, i64_w, i32_w]
                rfl
              refine one_ (i := 5) (N := some 61) #[true, true, true, true, true, true, false] rfl rfl (by kernel_rfl) (by decide) (fun K hK => ?_)
              refine value_ (w1 := w5.drew) (v := .slice none 0 0) (by rfl) rfl ?_ ?_
              · have hr := HRun.out
                go_simp
              refine hK.out _ _ ⟨HM13.out, HA13.out, HB13.out⟩ (fun hHeld => ?_)
              clear hK K
              refine norm_ (a' := ?_) ?_ ?_
              rotate_left
              · show Act.put _ (some 61) _ = _
                simp only [Act.put, List.setIfInBounds_toArray, List.set_cons_zero, List.set_cons_succ, i64_w, i32_w]
                rfl
              refine pure_ (i := 6) (N := some 62) (v := ?_) (a' := ?_) #[true, true, true, true, true, true, true] rfl rfl (by kernel_rfl) (fun _ _ _ h => h) (Or.inl ⟨by rfl, ?_⟩) ?_ ?_
              rotate_left
              · intro w'
                go_simp
                with_reducible rfl
              rotate_left
              · simp only [Act.put, List.setIfInBounds_toArray, List.set_cons_zero, List.set_cons_succ, i64_w, i32_w]
                rfl
              refine done_ (by kernel_rfl) ?_
              go_wp2_with fail
              obtain ⟨A5, k5, rfl, hc5, hC5⟩ := Kd.R_reads HO5.out
              have hlen : 0 < acc.length := by rw [HA.out]; decide
              obtain ⟨bk5, o5, rfl, _⟩ := C_strsD hC5 hlen
              have HW15 : Aside0 (Below w.heap.size w w5.drew.drew) := ⟨below_drew (below_drew HW5.out)⟩
              have hC15 : Kd.C Kd.string w5.drew.drew (some ⟨bk5, o5, none⟩) acc.length acc := Kd.C_below hC5 (below_drew (below_drew (Below.refl _ _)))
              obtain ⟨w6, hrun6, hL6, hg6⟩ := (HL.out.below HW15.out).put hn (HK.out a (by simp)).size (HK.out b (by simp)).size (v := .slice (some ⟨bk5, o5, none⟩) acc.length k5) ⟨_, k5, rfl, hc5, hC15⟩
              have HR6 := Aside0.mk hrun6
              have HL6 := Aside0.mk hL6
              have HG6 := Aside0.mk (grown_trans HW15.out hg6)
              clear hrun6 hL6 hg6 hC15 hC5 hc5 hlen HRun
              replace HM13 : Aside0 (w5.drew.drew.cell? ⟨B, 0, none⟩ = some (.map (some M))) := ⟨pw_cell_below HW15.out (blk_cell HL.out.blk 0)⟩
              replace HA13 : Aside0 (w5.drew.drew.cell? ⟨g5, 0, none⟩ = some (.string a)) := ⟨blk_cell (blk_drew (blk_drew BK5.out)) 0⟩
              replace HB13 : Aside0 (w5.drew.drew.cell? ⟨g5, 1, none⟩ = some (.string b)) := ⟨blk_cell (blk_drew (blk_drew BK5.out)) 1⟩
              refine start_ (n := 7) (S := fun w' => w'.cell? ⟨B, 0, none⟩ = some (.map (some M)) ∧ w'.cell? ⟨g5, 0, none⟩ = some (.string a) ∧ w'.cell? ⟨g5, 1, none⟩ = some (.string b)) (ds := [6]) #[false, false, false, false, false, false, false] (by kernel_rfl) rfl rfl ⟨HM13.out, HA13.out, HB13.out⟩ (fun hHeld => ?_)
              refine pure_ (i := 0) (N := some 63) (v := ?_) (a' := ?_) #[true, false, false, false, false, false, false] rfl rfl (by kernel_rfl) (fun _ _ _ h => h) (Or.inl ⟨by rfl, ?_⟩) ?_ ?_
              rotate_left
              · intro w'
                go_simp
                with_reducible rfl
              rotate_left
              · simp only [Act.put, List.setIfInBounds_toArray, List.set_cons_zero, List.set_cons_succ, i64_w, i32_w]
                rfl
              refine pure_ (i := 1) (N := some 64) (v := ?_) (a' := ?_) #[true, true, false, false, false, false, false] rfl rfl (by kernel_rfl) (fun _ _ _ h => h) (Or.inl ⟨by rfl, ?_⟩) ?_ ?_
              rotate_left
              · intro w'
                go_simp
                with_reducible rfl
              rotate_left
              · simp only [Act.put, List.setIfInBounds_toArray, List.set_cons_zero, List.set_cons_succ, i64_w, i32_w]
                rfl
              refine pure_ (i := 2) (N := some 65) (v := ?_) (a' := ?_) #[true, true, true, false, false, false, false] rfl rfl (by kernel_rfl) (fun _ _ _ h => h) (Or.inl ⟨by rfl, ?_⟩) ?_ ?_
              rotate_left
              · intro w'
                go_simp
                with_reducible rfl
              rotate_left
              · simp only [Act.put, List.setIfInBounds_toArray, List.set_cons_zero, List.set_cons_succ, i64_w, i32_w]
                rfl
              refine pure_ (i := 5) (N := some 68) (v := ?_) (a' := ?_) #[true, true, true, false, false, true, false] rfl rfl (by kernel_rfl) (fun _ _ _ h => h) (Or.inl ⟨by rfl, ?_⟩) ?_ ?_
              rotate_left
              · intro w'
                go_simp
                with_reducible rfl
              rotate_left
              · simp only [Act.put, List.setIfInBounds_toArray, List.set_cons_zero, List.set_cons_succ, i64_w, i32_w]
                rfl
              refine take_ (i := 3) (N := some 66) (v := ?_) (a' := ?_) #[true, true, true, true, false, true, false] rfl rfl (by kernel_rfl) (fun _ _ _ h => h) (Or.inl ⟨by rfl, ?_⟩) hHeld ?_ ?_
              rotate_left
              · rintro w' ⟨s0, s1, s2⟩
                go_simp
                with_reducible rfl
              rotate_left
              · simp only [Act.put, List.setIfInBounds_toArray, List.set_cons_zero, List.set_cons_succ, i64_w, i32_w]
                rfl
              refine take_ (i := 4) (N := some 67) (v := ?_) (a' := ?_) #[true, true, true, true, true, true, false] rfl rfl (by kernel_rfl) (fun _ _ _ h => h) (Or.inl ⟨by rfl, ?_⟩) hHeld ?_ ?_
              rotate_left
              · rintro w' ⟨s0, s1, s2⟩
                go_simp
                with_reducible rfl
              rotate_left
              · simp only [Act.put, List.setIfInBounds_toArray, List.set_cons_zero, List.set_cons_succ, i64_w, i32_w]
                rfl
              refine last_ (i := 6) (N := none) #[true, true, true, true, true, true, true] rfl rfl (by kernel_rfl) (by decide) (fun K hK => ?_)
              refine skip_ (w1 := w6) (by rfl) rfl ?_ ?_
              · have hr := HR6.out
                go_simp
              refine hK.out _ _ ?_
              clear hK K
              refine done_ (by kernel_rfl) ?_
              go_wp2_with fail
              go_ret
              have hs := rowL_some (fs := fs) HL4.out HLa.out HLb.out HTS.out
              rw [HGet.out] at hs
              rw [hs]
              exact ⟨rfl, HL6.out, HG6.out⟩
end Go.Proofs.YthefdpioaapomaaDoor.Ext
