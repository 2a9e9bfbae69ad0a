/- Plain laws on lists of bytes: cutting at a byte, words of a line, rows of a text. No program, no memory. -/
import Derived.Lib.SplitLaws
import Derived.Lib.CountLaws
import Derived.Lib.Strings
namespace Go.Proofs.YthefdpioaapomaaDoor.Pl
set_option linter.unusedVariables false
set_option linter.unusedSimpArgs false
open Go.Lib

abbrev Bs := List UInt8
def ofL (l : Bs) : ByteArray := ⟨l.toArray⟩
theorem ofL_data (l : Bs) : (ofL l).data.toList = l := rfl
theorem data_ofL (s : ByteArray) : ofL s.data.toList = s := by
  obtain ⟨a⟩ := s
  simp [ofL]
theorem ofL_toList (l : Bs) : (ofL l).toList = l := by rw [toList_data]; rfl
theorem ofL_size (l : Bs) : (ofL l).size = l.length := by rw [size_eq]; rfl
theorem ofL_inj {a b : Bs} (h : ofL a = ofL b) : a = b := by rw [← ofL_data a, h, ofL_data]
theorem map_ofL (xs : List ByteArray) : (xs.map (·.data.toList)).map ofL = xs := by
  rw [List.map_map]
  conv => rhs; rw [← List.map_id xs]
  exact List.map_congr_left fun x _ => data_ofL x

/-- Cut at each byte c. -/
def splitC (c : UInt8) : Bs → List Bs
  | [] => [[]]
  | b :: l => if b = c then [] :: splitC c l else match splitC c l with
    | [] => [[b]]
    | w :: ws => (b :: w) :: ws
theorem splitC_ne (c : UInt8) : ∀ l, splitC c l ≠ []
  | [] => by simp [splitC]
  | b :: l => by
    unfold splitC
    split
    · simp
    · split <;> simp
theorem splitC_cons (c : UInt8) (l : Bs) : ∃ w ws, splitC c l = w :: ws := by
  cases h : splitC c l with
  | nil => exact absurd h (splitC_ne c l)
  | cons w ws => exact ⟨w, ws, rfl⟩
theorem splitC_hit (c : UInt8) (l : Bs) : splitC c (c :: l) = [] :: splitC c l := by rw [splitC, if_pos rfl]
theorem splitC_miss {c b : UInt8} (h : b ≠ c) {l w : Bs} {ws : List Bs} (hl : splitC c l = w :: ws) : splitC c (b :: l) = (b :: w) :: ws := by rw [splitC, if_neg h, hl]
/-- A text without c ahead of a c. -/
theorem splitC_word (c : UInt8) : ∀ (a l : Bs), (∀ b ∈ a, b ≠ c) → splitC c (a ++ c :: l) = a :: splitC c l
  | [], l, _ => splitC_hit c l
  | b :: a, l, h => by
    have ih := splitC_word c a l (fun x hx => h x (List.mem_cons_of_mem _ hx))
    exact splitC_miss (h b List.mem_cons_self) ih
theorem splitC_none (c : UInt8) : ∀ (a : Bs), (∀ b ∈ a, b ≠ c) → splitC c a = [a]
  | [], _ => rfl
  | b :: a, h => splitC_miss (h b List.mem_cons_self) (splitC_none c a (fun x hx => h x (List.mem_cons_of_mem _ hx)))
theorem splitC_append (c : UInt8) : ∀ (a l : Bs), splitC c (a ++ c :: l) = splitC c a ++ splitC c l
  | [], l => splitC_hit c l
  | b :: a, l => by
    have ih := splitC_append c a l
    obtain ⟨w, ws, hw⟩ := splitC_cons c a
    by_cases hb : b = c
    · subst hb
      rw [List.cons_append, splitC_hit, splitC_hit, ih]; rfl
    · rw [List.cons_append, splitC_miss hb hw, splitC_miss hb (w := w) (ws := ws ++ splitC c l) (by rw [ih, hw]; rfl)]; rfl
theorem splitC_mem (c : UInt8) : ∀ (l : Bs) w, w ∈ splitC c l → ∀ b ∈ w, b ∈ l ∧ b ≠ c
  | [], w, hw, b, hb => by
    simp [splitC] at hw
    subst hw
    cases hb
  | x :: l, w, hw, b, hb => by
    by_cases hx : x = c
    · subst hx
      rw [splitC_hit] at hw
      rcases List.mem_cons.1 hw with rfl | hw
      · cases hb
      · exact ⟨List.mem_cons_of_mem _ (splitC_mem x l w hw b hb).1, (splitC_mem x l w hw b hb).2⟩
    · obtain ⟨v, vs, hv⟩ := splitC_cons c l
      rw [splitC_miss hx hv] at hw
      rcases List.mem_cons.1 hw with rfl | hw
      · rcases List.mem_cons.1 hb with rfl | hb
        · exact ⟨List.mem_cons_self, hx⟩
        · have := splitC_mem c l v (by rw [hv]; exact List.mem_cons_self) b hb
          exact ⟨List.mem_cons_of_mem _ this.1, this.2⟩
      · have := splitC_mem c l w (by rw [hv]; exact List.mem_cons_of_mem _ hw) b hb
        exact ⟨List.mem_cons_of_mem _ this.1, this.2⟩
theorem splitC_len (c : UInt8) : ∀ l : Bs, (splitC c l).length ≤ l.length + 1
  | [] => by simp [splitC]
  | b :: l => by
    have ih := splitC_len c l
    by_cases hb : b = c
    · subst hb
      rw [splitC_hit]; simp; omega
    · obtain ⟨w, ws, hw⟩ := splitC_cons c l
      rw [splitC_miss hb hw]
      rw [hw] at ih
      simp at ih ⊢
      omega
theorem splitC_word_len (c : UInt8) : ∀ (l : Bs) w, w ∈ splitC c l → w.length ≤ l.length
  | [], w, hw => by simp [splitC] at hw; subst hw; simp
  | x :: l, w, hw => by
    by_cases hx : x = c
    · subst hx
      rw [splitC_hit] at hw
      rcases List.mem_cons.1 hw with rfl | hw
      · simp
      · have := splitC_word_len x l w hw; simp; omega
    · obtain ⟨v, vs, hv⟩ := splitC_cons c l
      rw [splitC_miss hx hv] at hw
      rcases List.mem_cons.1 hw with rfl | hw
      · have := splitC_word_len c l v (by rw [hv]; exact List.mem_cons_self); simp; omega
      · have := splitC_word_len c l w (by rw [hv]; exact List.mem_cons_of_mem _ hw); simp; omega
/-- How much is in the pieces. -/
theorem splitC_total (c : UInt8) : ∀ l : Bs, ((splitC c l).map (fun w => w.length + 1)).sum = l.length + 1
  | [] => by simp [splitC]
  | b :: l => by
    have ih := splitC_total c l
    by_cases hb : b = c
    · subst hb
      rw [splitC_hit]; simp at ih ⊢; omega
    · obtain ⟨w, ws, hw⟩ := splitC_cons c l
      rw [splitC_miss hb hw]
      rw [hw] at ih
      simp at ih ⊢
      omega

/-- The library's cut at one byte is this one. -/
theorem splitK_one (c : UInt8) : ∀ (l : Bs) (k : Nat), count l [c] = k → splitK [c] 0 k l = splitC c l
  | [], k, h => by
    have h0 : k = 0 := by rw [← h]; exact count_miss (by simp [index])
    subst h0
    rfl
  | b :: l, k, h => by
    by_cases hb : b = c
    · subst hb
      rw [count_cons_eq] at h
      obtain ⟨m, rfl⟩ : ∃ m, k = m + 1 := ⟨k - 1, by omega⟩
      have ih := splitK_one b l m (by omega)
      have hix : index (b :: l) [b] = ((0 : Nat) : Int) := by rw [index]; simp [List.isPrefixOf]
      rw [splitK, hix, splitC_hit, ← ih]
      simp
    · rw [count_cons_ne b c l hb] at h
      have ih := splitK_one c l k h
      cases k with
      | zero =>
        have e : splitC c l = [l] := ih.symm
        rw [splitC_miss hb e]
        rfl
      | succ m =>
        have hne : index l [c] ≠ -1 := fun e => by rw [count_miss e] at h; omega
        have hge := index_ge l [c]
        obtain ⟨j, hj⟩ : ∃ j : Nat, index l [c] = j := ⟨(index l [c]).toNat, by omega⟩
        have hp : ([c] : List UInt8).isPrefixOf (b :: l) = false := by simp [List.isPrefixOf, Ne.symm hb]
        have hix : index (b :: l) [c] = ((j + 1 : Nat) : Int) := by
          rw [index, hp, hj]
          have : ¬ ((j : Int) == -1) = true := fun e => by have := beq_iff_eq.1 e; omega
          rw [if_neg (by decide), if_neg this]
          omega
        rw [splitK, hj] at ih
        have n1 : ¬ (((j : Nat) : Int) == -1) = true := fun e => by have := beq_iff_eq.1 e; omega
        have n2 : ¬ (((j + 1 : Nat) : Int) == -1) = true := fun e => by have := beq_iff_eq.1 e; omega
        rw [if_neg n1] at ih
        rw [splitK, hix, if_neg n2, splitC_miss hb ih.symm]
        simp
theorem splitB_one (c : UInt8) (s : ByteArray) : splitB ⟨#[c]⟩ 0 (countB s ⟨#[c]⟩) s = (splitC c s.data.toList).map ofL := by
  rw [← splitK_one c s.data.toList (countB s ⟨#[c]⟩) rfl, ← map_ofL (splitB _ _ _ _), splitB_data]

/-! ### Words of a line, rows of a text -/
def isOdd (b : UInt8) : Bool := b < 32 || 126 < b
def isSign (w : Bs) : Bool := w.head? == some 35
def wordsOf (l : Bs) : List Bs := ((splitC 32 l).takeWhile (fun w => !isSign w)).filter (fun w => !w.isEmpty)
structure Row where
  line : Int
  ws : List Bs
def parseGo : List Bs → Nat → List Row → List Row × Int × Int
  | [], _, out => (out, 0, 0)
  | l :: ls, i, out =>
    if l.any isOdd = true ∨ 24 < (wordsOf l).length then ([], i + 1, 2)
    else if (wordsOf l).length = 0 then parseGo ls (i + 1) out
    else if out.length = 2000 then ([], i + 1, 11)
    else parseGo ls (i + 1) (out ++ [⟨i + 1, wordsOf l⟩])
def parseB (t : Bs) : List Row × Int × Int := if 65536 < t.length then ([], 0, 11) else parseGo (splitC 10 t) 0 []
theorem wordsOf_mem {l w : Bs} (h : w ∈ wordsOf l) : w ∈ splitC 32 l ∧ w ≠ [] ∧ isSign w = false := by
  unfold wordsOf at h
  rw [List.mem_filter] at h
  obtain ⟨h1, h2⟩ := h
  refine ⟨(List.takeWhile_sublist _).subset h1, by simpa using h2, ?_⟩
  have := List.all_takeWhile (l := splitC 32 l) (p := fun w => !isSign w)
  rw [List.all_eq_true] at this
  simpa using this w h1
end Go.Proofs.YthefdpioaapomaaDoor.Pl
