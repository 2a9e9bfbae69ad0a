/- What the walked texts of layer 7 come to, further: the document's own Rows, rows.Of, rows.Show, rows.Blank, the statement that a row of two is read. No memory in sight. -/
import Derived.Test.YthefdpioaapomaaDoorPu7
import Derived.Test.YthefdpioaapomaaDoorExtS
import Derived.Test.YthefdpioaapomaaDoorExtB
import Derived.Lib.ReplaceLaws
import Derived.Test.YthefdpioaapomaaDoorPA5
import Derived.Test.YthefdpioaapomaaDoorPA2
namespace Go.Proofs.YthefdpioaapomaaDoor.Pu7
set_option linter.unusedVariables false
set_option linter.unusedSimpArgs false
open Go.RowKit Go.Proofs.YthefdpioaapomaaDoorW.PrintWords Go.Proofs.YthefdpioaapomaaDoorW.PrintLast Go.Proofs.YthefdpioaapomaaDoor.Ext Go.Proofs.YthefdpioaapomaaDoorW.PrintMore Go.Proofs.YthefdpioaapomaaDoor.PA Go.Proofs.YthefdpioaapomaaDoor.Pl

/-! The document's own rows -/
theorem extract_ofL (t p r : Bs) (fr : Nat) (h : t.drop fr = p ++ r) : (ofL t).extract fr (fr + p.length) = ofL p := by
  apply ByteArray.ext
  apply Array.ext'
  show ((ofL t).extract fr (fr + p.length)).data.toList = p
  rw [← Lib.toList_data, Lib.extract_toList, ofL_data, h, Nat.add_sub_cancel_left, List.take_left]
theorem parseGo_gap (i : Nat) (out : List Row) : parseGo [[]] i out = (out, 0, 0) := by
  rw [parseGo, if_neg (by simp [wordsOf, splitC, isSign]), if_pos (by simp [wordsOf, splitC, isSign])]
  rfl
/-- A piece is at its end. -/
theorem refRows_tail (t : Bs) (ht : t.length < 1000000000) (i fr line : Nat) (out : List Row) (p : Bs) (rest : List Bs) (hfr : fr + p.length = i) (hi : i ≤ t.length) (hline : line ≤ i) (ho : out.length ≤ line)
    (hp : (ofL t).extract fr i = ofL p) (hpl : p.length ≤ t.length)
    (next : ∀ out' : List Row, out'.length ≤ line + 1 → Ev (fun k => cubitref6_Rows.l0 k (ofL t) (out'.map t36) ((line + 1 : Nat) : Int) ((i + 1 : Nat) : Int) ((i + 1 : Nat) : Int)) (r36 (parseGo rest (line + 1) out'))) :
    Ev (fun k => cubitref6_Rows.j1 k (ofL t) (out.map t36) (line : Int) (fr : Int) (i : Int) false) (r36 (parseGo (p :: rest) line out)) := by
  have hrw := refWords_ev p (by omega)
  apply Ev.step (f := fun k => (cubitref6_rowWords.f k (ofL p)).bind fun bt245 => (if bt245.2 = true then (cubitref6_Rows.j2 k (ofL t) (out.map t36) ((line + 1 : Nat) : Int) (i : Int) bt245.1 (decide ((bt245.1.length : Int) > 24))) else (cubitref6_Rows.j2 k (ofL t) (out.map t36) ((line + 1 : Nat) : Int) (i : Int) bt245.1 true)))
  · intro k
    simp only [cubitref6_Rows.j1]
    rw [if_neg (by decide), if_pos (by omega), if_pos (by omega), if_pos (by rw [ofL_size]; omega), wrap_nat (by omega), Int.toNat_natCast, Int.toNat_natCast, hp]
  · refine Ev.bind hrw ?_
    have bad : ∀ ws, Ev (fun k => cubitref6_Rows.j2 k (ofL t) (out.map t36) ((line + 1 : Nat) : Int) (i : Int) ws true) (([] : List S36), ((line + 1 : Nat) : Int), 2) := by
      intro ws
      refine Ev.step (f := fun _ => some (([] : List S36), ((line + 1 : Nat) : Int), 2)) (fun k => ?_) (Ev.now _)
      simp only [cubitref6_Rows.j2]
      rw [if_pos trivial]
    by_cases hodd : p.any isOdd = true
    · rw [if_pos hodd, parseGo, if_pos (.inl hodd)]
      exact bad _
    · rw [if_neg hodd]
      simp only [List.length_map, if_pos]
      by_cases h24 : 24 < (wordsOf p).length
      · rw [decide_eq_true (by omega), parseGo, if_pos (.inr h24)]
        exact bad _
      · rw [decide_eq_false (by omega), parseGo, if_neg (fun h => h.elim hodd h24)]
        by_cases h0 : (wordsOf p).length = 0
        · rw [if_pos h0]
          refine Ev.step (fun k => ?_) (next out (by omega))
          simp only [cubitref6_Rows.j2]
          rw [if_neg (by decide), if_neg (by rw [List.length_map]; omega), wrap_nat (by omega)]
        · rw [if_neg h0]
          by_cases h2 : out.length = 2000
          · rw [if_pos h2]
            refine Ev.step (f := fun _ => some (([] : List S36), ((line + 1 : Nat) : Int), 11)) (fun k => ?_) (Ev.now _)
            simp only [cubitref6_Rows.j2]
            rw [if_neg (by decide), if_pos (by rw [List.length_map]; omega), if_pos (by rw [List.length_map, h2]; rfl)]
          · rw [if_neg h2]
            refine Ev.step (fun k => ?_) (next (out ++ [(⟨(line : Int) + 1, wordsOf p⟩ : Row)]) (by simp; omega))
            simp only [cubitref6_Rows.j2]
            rw [if_neg (by decide), if_pos (by rw [List.length_map]; omega), if_neg (by rw [List.length_map]; omega), if_pos (by rw [List.length_map]; omega), wrap_nat (by omega), List.map_append]
            rfl
theorem refRows_loop (t : Bs) (ht : t.length < 1000000000) : ∀ (d i fr line : Nat) (out : List Row) (p : Bs), i + d = t.length + 1 → t.drop fr = p ++ t.drop i → (i ≤ t.length → fr + p.length = i) → (∀ b ∈ p, b ≠ (10 : UInt8)) → line ≤ i → out.length ≤ line → (d = 0 → p = []) →
    Ev (fun k => cubitref6_Rows.l0 k (ofL t) (out.map t36) (line : Int) (fr : Int) (i : Int)) (r36 (parseGo (splitC 10 (t.drop fr)) line out))
  | 0, i, fr, line, out, p, hd, hp, hfr, hn, hl, ho, hz => by
    obtain rfl := hz rfl
    rw [hp, List.drop_of_length_le (by omega), show splitC 10 ([] ++ []) = [[]] from rfl, parseGo_gap]
    refine Ev.step (f := fun _ => some (out.map t36, 0, 0)) (fun k => ?_) (Ev.now _)
    simp only [cubitref6_Rows.l0]
    rw [if_neg (by rw [ofL_size]; omega)]
  | d + 1, i, fr, line, out, p, hd, hp, hfr, hn, hl, ho, hz => by
    have hfr := hfr (by omega)
    have hex := extract_ofL t p (t.drop i) fr hp
    rw [hfr] at hex
    by_cases hi : i < t.length
    · have hb := bt_ofL t hi
      have hdr : t.drop i = t[i] :: t.drop (i + 1) := List.drop_eq_getElem_cons hi
      generalize hx : t[i] = b at hb hdr
      by_cases h10 : b = 10
      · subst h10
        have e1 : splitC 10 (t.drop fr) = p :: splitC 10 (t.drop (i + 1)) := by rw [hp, hdr, splitC_word 10 p _ hn]
        rw [e1]
        have hpl : p.length ≤ t.length := by have := congrArg List.length hp; simp at this; omega
        refine Ev.step (fun k => ?_) (refRows_tail t ht i fr line out p (splitC 10 (t.drop (i + 1))) hfr (by omega) hl ho hex hpl (fun out' ho' => refRows_loop t ht d (i + 1) (i + 1) (line + 1) out' [] (by omega) rfl (fun _ => rfl) (by simp) (by omega) ho' (fun _ => rfl)))
        simp only [cubitref6_Rows.l0]
        rw [if_pos (by rw [ofL_size]; omega), if_pos (by rw [ofL_size]; omega), if_pos (by omega), if_pos (show bt (ofL t) (i : Int) = 10 by rw [hb]; rfl), if_neg (by rw [ofL_size]; omega)]
      · have ih := refRows_loop t ht d (i + 1) fr line out (p ++ [b]) (by omega) (by rw [hp, hdr, List.append_assoc]; rfl) (fun _ => by simp; omega) (by
          intro y hy
          rcases List.mem_append.1 hy with h | h
          · exact hn y h
          · rw [List.mem_singleton.1 h]; exact h10) (by omega) ho (fun h => by
          exfalso; omega)
        have ih2 : Ev (fun k => cubitref6_Rows.j1 k (ofL t) (out.map t36) (line : Int) (fr : Int) (i : Int) true) (r36 (parseGo (splitC 10 (t.drop fr)) line out)) := by
          refine Ev.step (fun k => ?_) ih
          simp only [cubitref6_Rows.j1]
          rw [if_pos trivial, wrap_nat (by omega)]
        refine Ev.step (fun k => ?_) ih2
        simp only [cubitref6_Rows.l0]
        rw [if_pos (by rw [ofL_size]; omega), if_pos (by rw [ofL_size]; omega), if_pos (by omega), if_neg (show ¬ bt (ofL t) (i : Int) = 10 from fun e => h10 (UInt8.toNat_inj.1 (by show b.toNat = 10; omega)))]
    · have hz2 : d = 0 := by omega
      have hi2 : i = t.length := by omega
      have hdr : t.drop i = [] := List.drop_of_length_le (by omega)
      rw [hdr, List.append_nil] at hp
      have open0 : ∀ r, Ev (fun k => cubitref6_Rows.j1 k (ofL t) (out.map t36) (line : Int) (fr : Int) (i : Int) ((fr : Int) == (i : Int))) r → Ev (fun k => cubitref6_Rows.l0 k (ofL t) (out.map t36) (line : Int) (fr : Int) (i : Int)) r := by
        intro r h
        refine Ev.step (fun k => ?_) h
        simp only [cubitref6_Rows.l0]
        rw [if_pos (by rw [ofL_size]; omega), if_neg (by rw [ofL_size]; omega), if_pos (by rw [ofL_size]; omega)]
      refine open0 _ ?_
      by_cases hpn : p = []
      · subst hpn
        have hfi : ((fr : Int) == (i : Int)) = true := beq_iff_eq.2 (by simp at hfr; omega)
        rw [hfi]
        have ih := refRows_loop t ht d (i + 1) fr line out [] (by omega) (by rw [hp, List.drop_of_length_le (by omega)]; rfl) (fun h => by omega) (by simp) (by omega) ho (fun _ => rfl)
        refine Ev.step (fun k => ?_) ih
        simp only [cubitref6_Rows.j1]
        rw [if_pos trivial, wrap_nat (by omega)]
      · have hfi : ((fr : Int) == (i : Int)) = false := by
          rw [beq_eq_false_iff_ne]; intro e
          exact hpn (List.length_eq_zero_iff.1 (by omega))
        have hpl : p.length ≤ t.length := by have := congrArg List.length hp; simp at this; omega
        rw [hfi, hp, splitC_none 10 p hn]
        refine refRows_tail t ht i fr line out p [] hfr (by omega) hl ho hex hpl (fun out' ho' => ?_)
        have ih := refRows_loop t ht d (i + 1) (i + 1) (line + 1) out' [] (by omega) rfl (fun h => by omega) (by simp) (by omega) ho' (fun _ => rfl)
        rw [List.drop_of_length_le (by omega), show splitC 10 [] = [[]] from rfl, parseGo_gap] at ih
        exact ih
theorem refRows_ev (t : Bs) : Ev (fun k => cubitref6_Rows.f k (ofL t)) (r36 (parseB t)) := by
  unfold parseB
  by_cases h : 65536 < t.length
  · rw [if_pos h]
    refine Ev.congr (fun k => ?_) (Ev.now _)
    unfold cubitref6_Rows.f
    rw [if_pos (by rw [ofL_size]; omega)]
    rfl
  · rw [if_neg h]
    refine Ev.congr (fun k => ?_) (refRows_loop t (by omega) (t.length + 1) 0 0 0 [] [] (by omega) rfl (fun _ => rfl) (by simp) (by omega) (by simp) (fun _ => rfl))
    unfold cubitref6_Rows.f
    rw [if_neg (by rw [ofL_size]; omega)]
    rfl

/-! rows.Of -/
def isKind (c : Bs) (r : Row) : Bool := r.ws.head? == some c
theorem clone_f (l : List ByteArray) (h : l.length < 1000000000) : slices_Clone.f l = some l := by
  unfold slices_Clone.f
  rw [if_pos (by omega)]
theorem head_test (r : Row) (c : Bs) (hne : r.ws ≠ []) : ((rdOf ByteArray.empty ((t31 r).f1) 0).toList == (ofL c).toList) = isKind c r := by
  obtain ⟨ln, ws⟩ := r
  cases ws with
  | nil => exact absurd rfl hne
  | cons w ws =>
    show ((ofL w).toList == (ofL c).toList) = (some w == some c)
    rw [ofL_toList, ofL_toList]
    rfl
theorem of_loop (c : Bs) (rs : List Row) (hl : rs.length < 1000000000) (hw : ∀ r ∈ rs, r.ws ≠ [] ∧ r.ws.length < 1000000000) : ∀ (d i : Nat) (out : List Row), i + d = rs.length → out.length ≤ i →
    Ev (fun k => rows_Of.l0 k (ofL c) (out.map t31) (rs.map t31) (rs.length : Int) (i : Int)) ((out ++ (rs.drop i).filter (isKind c)).map t31)
  | 0, i, out, hd, ho => by
    rw [List.drop_of_length_le (by omega)]
    refine Ev.step (f := fun _ => some ((out ++ ([] : List Row).filter (isKind c)).map t31)) (fun k => ?_) (Ev.now _)
    simp only [rows_Of.l0]
    rw [if_neg (by omega)]
    simp
  | d + 1, i, out, hd, ho => by
    have hi : i < rs.length := by omega
    obtain ⟨hne, hwl⟩ := hw rs[i] (List.getElem_mem hi)
    have hr := rd31 rs hi
    rw [List.drop_eq_getElem_cons hi]
    generalize rs[i] = r at hne hwl hr
    have hlen : 0 < (t31 r).f1.length := by
      show 0 < (r.ws.map ofL).length
      rw [List.length_map]
      exact List.length_pos_iff.2 hne
    have open0 : ∀ q, Ev (fun k => rows_Of.j1 k (ofL c) (out.map t31) (rs.map t31) (rs.length : Int) (i : Int) (isKind c r) (t31 r).f0 (t31 r).f1) q → Ev (fun k => rows_Of.l0 k (ofL c) (out.map t31) (rs.map t31) (rs.length : Int) (i : Int)) q := by
      intro q h
      refine Ev.step (fun k => ?_) h
      simp only [rows_Of.l0]
      rw [if_pos (by omega), if_pos (by omega), if_pos (by rw [List.length_map]; omega), hr, if_pos (by omega), if_pos (by omega), head_test r c hne]
    refine open0 _ ?_
    cases hk : isKind c r with
    | true =>
      rw [List.filter_cons_of_pos hk]
      have ih := of_loop c rs hl hw d (i + 1) (out ++ [r]) (by omega) (by simp; omega)
      rw [List.append_assoc] at ih
      refine Ev.step (fun k => ?_) ih
      simp only [rows_Of.j1]
      rw [if_pos trivial, clone_f _ (by show (r.ws.map ofL).length < _; rw [List.length_map]; exact hwl), Option.bind_some, if_pos (by rw [List.length_map]; omega), wrap_nat (by omega), List.map_append]
      rfl
    | false =>
      rw [List.filter_cons_of_neg (by rw [hk]; decide)]
      refine Ev.step (fun k => ?_) (of_loop c rs hl hw d (i + 1) out (by omega) (by omega))
      simp only [rows_Of.j1]
      rw [if_neg (by decide), wrap_nat (by omega)]
theorem of_ev (c : Bs) (rs : List Row) (hl : rs.length < 1000000000) (hw : ∀ r ∈ rs, r.ws ≠ [] ∧ r.ws.length < 1000000000) : Ev (fun k => rows_Of.f k (rs.map t31) (ofL c)) ((rs.filter (isKind c)).map t31) := by
  refine Ev.congr (fun k => ?_) (of_loop c rs hl hw rs.length 0 [] (by omega) (by simp))
  unfold rows_Of.f
  rw [List.length_map]
  rfl

/-! rows.Show -/
def joinW (ws : List Bs) : Bs := Lib.join ws [32]
def showW (rs : List Row) : Bs := (rs.map (fun r => joinW r.ws ++ [10])).flatten
theorem joinB_ofL (ws : List Bs) : joinB (ws.map ofL) ⟨#[32]⟩ = ofL (joinW ws) := by
  unfold joinB joinW
  rw [List.map_map, show ((fun x : ByteArray => x.data.toList) ∘ ofL) = id from rfl, List.map_id]
  rfl
theorem showLine_eq (r : Row) : showLine (t31 r) = ofL (joinW r.ws ++ [10]) := by
  show joinB (r.ws.map ofL) ⟨#[32]⟩ ++ (⟨#[10]⟩ : ByteArray) = _
  rw [joinB_ofL, ← ofL_append]
  rfl
theorem joinW_cons (w v : Bs) (ws : List Bs) : joinW (w :: v :: ws) = w ++ 32 :: joinW (v :: ws) := by
  unfold joinW
  rw [Lib.join_cons, Lib.join_cons]
  simp [Lib.joinTail]
theorem joinW_one (w : Bs) : joinW [w] = w := Lib.join_one w _
theorem joinW_nil : joinW [] = [] := rfl
theorem showW_cons (r : Row) (rs : List Row) : showW (r :: rs) = (joinW r.ws ++ [10]) ++ showW rs := rfl
theorem show_go : ∀ (rs : List Row) (acc : Bs), acc.length + (showW rs).length ≤ 1000000000 → (∀ r ∈ rs, r.ws.length < 1000000000) → showGo (rs.map t31) (ofL acc) = some (ofL (acc ++ showW rs))
  | [], acc, _, _ => by
    show some (ofL acc) = _
    rw [show showW [] = [] from rfl, List.append_nil]
  | r :: rs, acc, h, hw => by
    have e := showW_cons r rs
    have hlen : (showW (r :: rs)).length = (joinW r.ws).length + 1 + (showW rs).length := by rw [e]; simp; omega
    have hj : strings_Join.f (t31 r).f1 ⟨#[32]⟩ = some (ofL (joinW r.ws)) := by
      show strings_Join.f (r.ws.map ofL) ⟨#[32]⟩ = _
      have := hw r List.mem_cons_self
      unfold strings_Join.f
      rw [joinB_ofL, if_pos (by rw [ofL_size]; omega), if_pos (by rw [List.length_map]; omega)]
    rw [List.map_cons, showGo, hj, if_pos (show (some (ofL (joinW r.ws))).isSome = true from rfl), showLine_eq, if_pos (by rw [ofL_size, ofL_size]; simp; omega), ofL_append, show_go rs _ (by simp; omega) (fun x hx => hw x (List.mem_cons_of_mem _ hx)), e, List.append_assoc]
theorem show_f (rs : List Row) (h : (showW rs).length ≤ 1000000000) (hw : ∀ r ∈ rs, r.ws.length < 1000000000) : rows_Show.f (rs.map t31) = some (ofL (showW rs)) :=
  show_go rs [] (by simpa using h) hw

/-! rows.Blank -/
theorem replaceK_one : ∀ (l : Bs) (k : Nat), Lib.count l [95] = k → Lib.replaceK [95] [32] k l = l.map blankC
  | [], k, h => by
    have h0 : k = 0 := by rw [← h]; exact Lib.count_miss (by simp [Lib.index])
    subst h0
    rfl
  | b :: l, k, h => by
    by_cases hb : b = 95
    · subst hb
      rw [Lib.count_cons_eq] at h
      obtain ⟨m, rfl⟩ : ∃ m, k = m + 1 := ⟨k - 1, by omega⟩
      have ih := replaceK_one l m (by omega)
      have hix : Lib.index ((95 : UInt8) :: l) [95] = ((0 : Nat) : Int) := by rw [Lib.index]; simp [List.isPrefixOf]
      rw [Lib.replaceK_hit _ _ _ _ 0 hix]
      show [] ++ [32] ++ Lib.replaceK [95] [32] m l = _
      rw [ih]
      rfl
    · rw [Lib.count_cons_ne b 95 l hb] at h
      have ih := replaceK_one l k h
      have hbl : blankC b = b := by unfold blankC; rw [if_neg hb]
      rw [List.map_cons, ← ih, hbl]
      cases k with
      | zero => rfl
      | succ m =>
        obtain ⟨j, hj⟩ := Lib.index_of_count (s := l) (old := [95]) (by omega)
        have hp : ([95] : List UInt8).isPrefixOf (b :: l) = false := by simp [List.isPrefixOf, Ne.symm hb]
        have hix : Lib.index (b :: l) [95] = ((j + 1 : Nat) : Int) := by
          rw [Lib.index, hp, hj]
          have : ¬ ((j : Int) == -1) = true := fun e => by have := beq_iff_eq.1 e; omega
          rw [if_neg (by decide), if_neg this]
          omega
        rw [Lib.replaceK_hit _ _ _ _ _ hix, Lib.replaceK_hit _ _ _ _ _ hj]
        rfl
theorem blank_f (t : Bs) (h : t.length < 4294967281) : rows_Blank.f (ofL t) = some (ofL (t.map blankC)) := by
  have hc := Lib.countB_le (⟨#[95]⟩ : ByteArray) (by decide) (ofL t).size (ofL t) (Nat.le_refl _)
  have hr : strings_ReplaceAll.f (ofL t) (⟨#[95]⟩ : ByteArray) (⟨#[32]⟩ : ByteArray) = some (ofL (t.map blankC)) := by
    unfold strings_ReplaceAll.f
    rw [ofL_size] at hc ⊢
    have h1 : (⟨#[32]⟩ : ByteArray).size = 1 := rfl
    rw [if_pos h, if_pos (by decide), if_pos (by rw [h1]; omega)]
    congr 2
    rw [ofL_data]
    have e : Lib.replaceAll t (⟨#[95]⟩ : ByteArray).data.toList (⟨#[32]⟩ : ByteArray).data.toList = t.map blankC := by
      show Lib.replace t [95] [32] (-1) = _
      unfold Lib.replace
      rw [if_neg (by decide)]
      have : Lib.replaceNum t [95] (-1) = Lib.count t [95] := by unfold Lib.replaceNum; rw [if_pos (.inl (by decide))]
      rw [this]
      exact replaceK_one t _ rfl
    rw [e]
  unfold rows_Blank.f
  rw [hr]
  rfl
theorem refBlank_f (t : Bs) (h : t.length < 4294967281) : cubitref6_Blank.f (ofL t) = some (ofL (t.map blankC)) := by
  unfold cubitref6_Blank.f
  rw [if_pos (by rw [ofL_size]; omega)]
  rfl

/-! awake -/
theorem awake_parse : parseB [97, 32, 98, 32, 35, 32, 99] = ([⟨1, [[97], [98]]⟩], 0, 0) := by rfl
theorem awake_ev : Ev (fun k => cubitlaw7_awake.f k) true := by
  have hp := parse_ev [97, 32, 98, 32, 35, 32, 99]
  rw [awake_parse] at hp
  have ha := alike_ev [⟨1, [[97], [98]]⟩] (by decide) (by simp)
  have hs := show_f [⟨1, [[97], [98]]⟩] (by decide) (by simp)
  have hb := blank_f [95, 97, 95] (by decide)
  unfold cubitlaw7_awake.f
  refine Ev.bind hp ?_
  simp only [r31, if_true]
  refine Ev.bind ha ?_
  simp only [if_true]
  rw [hs]
  refine Ev.congr (fun k => ?_) (Ev.now true)
  rw [Option.bind_some, if_pos (by rw [ofL_toList]; rfl)]
  show (rows_Blank.f (ofL [95, 97, 95])).bind _ = _
  rw [hb, Option.bind_some, if_pos (by rw [ofL_toList]; rfl)]
end Go.Proofs.YthefdpioaapomaaDoor.Pu7
