/- (*pattern.Words).Chain, walked by hand: a language and those whose texts are its own. -/
import Derived.Test.YthefdpioaapomaaGreatDoorWordK
import Derived.Test.YthefdpioaapomaaGreatDoorPA1
import Derived.Deep.QuietTactic
import Derived.BigQuiet
import Derived.WalkSpells
import Derived.WalkLawsBesides
namespace Go.Proofs.YthefdpioaapomaaGreatDoor.Ext
set_option linter.unusedVariables false
set_option linter.unusedSimpArgs false
open Go.RowKit Go.Proofs.YthefdpioaapomaaGreatDoorW.PrintWords Go.Proofs.YthefdpioaapomaaGreatDoorW.PrintLast Go.Proofs.YthefdpioaapomaaGreatDoorW.PrintMore Go.Maps Go.WideMaps Go.Proofs.YthefdpioaapomaaGreatDoor.PA

abbrev rootB : ByteArray := ⟨#[114, 111, 111, 116]⟩
/-- A chain of languages: it ends in root, or where no parent is. -/
def Ends (ps : List (ByteArray × ByteArray)) : List ByteArray → ByteArray → Prop
  | [], _ => False
  | x :: c, s => x = s ∧ ((s = rootB ∧ c = []) ∨ (s ≠ rootB ∧ ((getS ps s = none ∧ c = [rootB]) ∨ ∃ p, getS ps s = some p ∧ Ends ps c p)))
def lenOf : Value → Nat
  | .slice _ n _ => n
  | _ => 0
theorem getS_mem {ps : List (ByteArray × ByteArray)} {s p : ByteArray} : getS ps s = some p → ∃ e ∈ ps, e.2 = p := by
  induction ps with
  | nil => intro h; cases h
  | cons e ps ih =>
    intro h
    rw [getS] at h
    split at h
    · exact ⟨e, List.mem_cons_self, Option.some.inj h⟩
    · obtain ⟨e', h1, h2⟩ := ih h
      exact ⟨e', List.mem_cons_of_mem _ h1, h2⟩
theorem root_iff (s : ByteArray) : (s.toList == ([114, 111, 111, 116] : List UInt8)) = decide (s = rootB) := by
  by_cases h : s = rootB
  · subst h
    rw [decide_eq_true rfl]
    rw [beq_iff_eq, Lib.toList_data]
  · rw [decide_eq_false h, beq_eq_false_iff_ne]
    intro e
    apply h
    rw [Lib.toList_data] at e
    apply ByteArray.ext
    apply Array.ext'
    exact e
theorem lenOf_R {w : World} {base : Nat} {ok : Nat → Prop} {v : Value} {xs : List ByteArray} (h : Kd.R Kd.string 9 w base ok v xs) : lenOf v = xs.length := by
  obtain ⟨A, c, rfl⟩ := Kd.R_slice h
  rfl
/-- Where the walk of a chain stands. -/
def AtC (ps : List (ByteArray × ByteArray)) (full acc : List ByteArray) (s : ByteArray) (b : Bool) : Prop := (b = true ∧ s.size ≤ maxLen ∧ ∃ c, Ends ps c s ∧ acc ++ c = full) ∨ (b = false ∧ acc ++ [rootB] = full)
set_option maxHeartbeats 4000000 in
set_option maxRecDepth 100000 in
theorem chain_any (B M Q n : Nat) (ks : List (K6 × ByteArray)) (ps : List (ByteArray × ByteArray)) (s : ByteArray) (full : List ByteArray) (w : World) (hL : WordsAt w B M Q n ks ps) (hs : s.size ≤ maxLen) (hE : Ends ps full s) (hf : full.length ≤ 100000) (hp : ∀ e ∈ ps, e.2.size ≤ maxLen) :
    Calls Tryz.prog 12 #[.pointer (some ⟨B, 0, none⟩), .string s] w fun e w' => ∃ v, e = .returned v ∧ Kd.R Kd.string 9 w' w.heap.size (fun _ => True) v full ∧ Below w.heap.size w w' := by
  have HL := Aside0.mk hL
  have HP := Aside0.mk hp
  have H0 : Aside0 (AtC ps full [] s true) := ⟨.inl ⟨rfl, hs, full, hE, rfl⟩⟩
  clear hL hs hE hp
  go_enter Tryz.func12, Tryz.ntmps12
  go_wp2_with fail
  go_loopw [1, 5, 6] (fun v1 v5 v6 wr => ∃ (s : ByteArray) (acc : List ByteArray) (b : Bool), v1 = .string s ∧ v6 = .bool b ∧ Aside0 (AtC ps full acc s b) ∧ Aside0 (Kd.R Kd.string 9 wr w.heap.size (fun _ => True) v5 acc) ∧ Aside0 (Below w.heap.size w wr)) (fun _ v5 _ _ => full.length - lenOf v5)
  case atStart => exact ⟨s, [], true, rfl, rfl, H0, ⟨Kd.R_nil _ _ _ _ _⟩, ⟨Below.refl _ _⟩⟩
  case round =>
    obtain ⟨s, acc, b, rfl, rfl, HC, HO, HB⟩ := hrel
    rename_i wr
    have HLn : Aside0 (acc.length < full.length) := ⟨by
      rcases HC.out with ⟨_, _, c, hc, e⟩ | ⟨_, e⟩
      · rw [← e, List.length_append]
        cases c with
        | nil => exact hc.elim
        | cons => simp
      · rw [← e, List.length_append]
        simp⟩
    cases b with
    | false =>
      have hfull : acc ++ [rootB] = full := by
        rcases HC.out with ⟨h, _⟩ | ⟨_, e⟩
        · cases h
        · exact e
      have HFu := Aside0.mk hfull
      clear hfull
      go_wp2_with (first | ((with_reducible refine gate_builtin (b := .append) (xs := #[.tmp 25, .tmp 26]) rfl ?_); at_builtin; refine Kd.R_append Kd.string (w0 := w) w.heap.size rfl (.tmp 25) (.tmp 26) 23 9 (.string ⟨#[]⟩) 16 rfl Tryz.underlying23 PA.info9 rfl (by decide) (by omega) u5 acc rootB [.string rootB] (fun _ => True) (fun _ => False) rfl rfl ?aP (fun _ hk => hk.elim) ?aF ?aO ?aB ?aS ?aL ?_; (case aP => exact rfl); (case aB => exact HB.out); (case aF => exact (fun _ _ => trivial)); (case aO => exact HO.out); (case aS => exact (below_size HB.out)); (case aL => have := HLn.out; omega); intro v5 w5 ho hb hg hat; have HO5 := Aside0.mk ho; have HB5 := Aside0.mk hb; clear ho hb hg hat))
      go_ret
      exact ⟨_, rfl, by rw [← HFu.out]; exact HO5.out, HB5.out⟩
    | true =>
      obtain ⟨hsz, c, hc, hfu⟩ : s.size ≤ maxLen ∧ ∃ c, Ends ps c s ∧ acc ++ c = full := by
        rcases HC.out with ⟨_, h⟩ | ⟨h, _⟩
        · exact h
        · cases h
      obtain ⟨x, c, rfl⟩ : ∃ x c', c = x :: c' := by
        cases c with
        | nil => exact hc.elim
        | cons x c => exact ⟨x, c, rfl⟩
      obtain ⟨rfl, hc⟩ := hc
      rcases hc with ⟨rfl, rfl⟩ | ⟨hne, hc⟩
      · have HFu := Aside0.mk hfu
        clear hfu hsz
        go_wp2_with (first | ((with_reducible refine gate_builtin (b := .append) (xs := #[.tmp 25, .tmp 26]) rfl ?_); at_builtin; refine Kd.R_append Kd.string (w0 := w) w.heap.size rfl (.tmp 25) (.tmp 26) 23 9 (.string ⟨#[]⟩) 16 rfl Tryz.underlying23 PA.info9 rfl (by decide) (by omega) u5 acc rootB [.string rootB] (fun _ => True) (fun _ => False) rfl rfl ?aP (fun _ hk => hk.elim) ?aF ?aO ?aB ?aS ?aL ?_; (case aP => exact rfl); (case aB => exact HB.out); (case aF => exact (fun _ _ => trivial)); (case aO => exact HO.out); (case aS => exact (below_size HB.out)); (case aL => have := HLn.out; omega); intro v5 w5 ho hb hg hat; have HO5 := Aside0.mk ho; have HB5 := Aside0.mk hb; clear ho hb hg hat))
        go_ret
        exact ⟨_, rfl, by rw [← HFu.out]; exact HO5.out, HB5.out⟩
      · have f1 : (x.toList == ([114, 111, 111, 116] : List UInt8)) = false := by rw [root_iff, decide_eq_false hne]
        have f2 : (x.toList != ([114, 111, 111, 116] : List UInt8)) = true := by unfold bne; rw [f1]; rfl
        have HNe := Aside0.mk hne
        have HFu := Aside0.mk hfu
        have HSz := Aside0.mk hsz
        have HCc := Aside0.mk hc
        obtain ⟨r, hr⟩ : ∃ r, getS ps x = r := ⟨_, rfl⟩
        have HR := Aside0.mk hr
        clear hne hfu hsz hc hr
        cases r with
        | none =>
          go_wp2_with (first | ((with_reducible refine gate_builtin (b := .append) (xs := #[.tmp 21, .tmp 23]) rfl ?_); at_builtin; refine Kd.R_append Kd.string (w0 := w) w.heap.size rfl (.tmp 21) (.tmp 23) 23 9 (.string ⟨#[]⟩) 16 rfl Tryz.underlying23 PA.info9 rfl (by decide) (by omega) u5 acc x [.string x] (fun _ => True) (fun _ => False) rfl rfl ?aP (fun _ hk => hk.elim) ?aF ?aO ?aB ?aS ?aL ?_; (case aP => exact rfl); (case aB => exact HB.out); (case aF => exact (fun _ _ => trivial)); (case aO => exact HO.out); (case aS => exact (below_size HB.out)); (case aL => have := HLn.out; omega); intro v5 w5 ho hb hg hat; have HO5 := Aside0.mk ho; have HB5 := Aside0.mk hb; clear ho hb hg hat; have hr5 := HL.out.parent HSz.out HB5.out; rw [HR.out] at hr5; have hm5 := pw_cell_below HB5.out (blk_cell HL.out.blk 1)))
          have hc2 : c = [rootB] := by
            rcases HCc.out with ⟨_, e⟩ | ⟨p, h, _⟩
            · exact e
            · rw [HR.out] at h; cases h
          have HA : Aside0 (AtC ps full (acc ++ [x]) ⟨#[]⟩ false) := ⟨.inr ⟨rfl, by rw [← HFu.out, hc2]; simp⟩⟩
          exact ⟨⟨_, _, _, rfl, rfl, HA, HO5, HB5⟩, by rw [lenOf_R HO5.out, lenOf_R HO.out, List.length_append]; have := HLn.out; simp only [List.length_cons, List.length_nil]; omega⟩
        | some p =>
          go_wp2_with (first | ((with_reducible refine gate_builtin (b := .append) (xs := #[.tmp 21, .tmp 23]) rfl ?_); at_builtin; refine Kd.R_append Kd.string (w0 := w) w.heap.size rfl (.tmp 21) (.tmp 23) 23 9 (.string ⟨#[]⟩) 16 rfl Tryz.underlying23 PA.info9 rfl (by decide) (by omega) u5 acc x [.string x] (fun _ => True) (fun _ => False) rfl rfl ?aP (fun _ hk => hk.elim) ?aF ?aO ?aB ?aS ?aL ?_; (case aP => exact rfl); (case aB => exact HB.out); (case aF => exact (fun _ _ => trivial)); (case aO => exact HO.out); (case aS => exact (below_size HB.out)); (case aL => have := HLn.out; omega); intro v5 w5 ho hb hg hat; have HO5 := Aside0.mk ho; have HB5 := Aside0.mk hb; clear ho hb hg hat; have hr5 := HL.out.parent HSz.out HB5.out; rw [HR.out] at hr5; have hm5 := pw_cell_below HB5.out (blk_cell HL.out.blk 1)))
          have hc2 : Ends ps c p := by
            rcases HCc.out with ⟨h, _⟩ | ⟨p', h, hE⟩
            · rw [HR.out] at h; cases h
            · rw [HR.out] at h; obtain rfl := Option.some.inj h; exact hE
          have hps : p.size ≤ maxLen := by
            obtain ⟨e, he, rfl⟩ := getS_mem HR.out
            exact HP.out e he
          have HA : Aside0 (AtC ps full (acc ++ [x]) p true) := ⟨.inl ⟨rfl, hps, c, hc2, by rw [← HFu.out]; simp⟩⟩
          exact ⟨⟨_, _, _, rfl, rfl, HA, HO5, HB5⟩, by rw [lenOf_R HO5.out, lenOf_R HO.out, List.length_append]; have := HLn.out; simp only [List.length_cons, List.length_nil]; omega⟩
end Go.Proofs.YthefdpioaapomaaGreatDoor.Ext
