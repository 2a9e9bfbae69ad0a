/- PatternExact, the plain law: a key that is there came of a row. -/
import Derived.Test.YthefdpioaapomaaGreatDoorHeavyW
namespace Go.Proofs.YthefdpioaapomaaGreatDoor.Ext
set_option linter.unusedVariables false
set_option linter.unusedSimpArgs false
open Go.RowKit Go.Proofs.YthefdpioaapomaaGreatDoorW.PrintWords Go.Proofs.YthefdpioaapomaaGreatDoorW.PrintLast Go.Proofs.YthefdpioaapomaaGreatDoorW.PrintMore Go.Maps Go.WideMaps Go.Proofs.YthefdpioaapomaaGreatDoor.PA

theorem keyW_of {l : List ByteArray} {k : K6} (h : keyW l = some k) : ∃ t, l = k.kind :: k.lang :: k.width :: t ∧ langK k.lang = true ∧ widthK k.width = true := by
  match l, h with
  | k0 :: a :: b :: t, h =>
    rw [keyW] at h
    split at h
    · rename_i hq
      refine ⟨t, ?_⟩
      (repeat' split at h) <;> first | (cases h; exact ⟨rfl, hq.2.1, hq.2.2.1⟩) | cases h
    · cases h
def KeyFrom (rs : List S41) (q : K6) (v : ByteArray) : Prop := ∃ r ∈ rs, ∃ t, r.f1 = q.kind :: t ∧ v = blankK (r.f1.getD (r.f1.length - 1) eS) ∧ langK q.lang = true ∧ widthK q.width = true
theorem textW_from {ks : List (K6 × ByteArray)} {l : List ByteArray} {e : K6 × ByteArray} (h : e ∈ (textW ks l).2) : e ∈ ks ∨ ∃ t, l = e.1.kind :: t ∧ e.2 = blankK (l.getD (l.length - 1) eS) ∧ langK e.1.lang = true ∧ widthK e.1.width = true := by
  unfold textW at h
  split at h
  · exact .inl h
  · rename_i k hk
    split at h
    · exact .inl h
    · rcases List.mem_cons.1 h with rfl | h
      · obtain ⟨t, ht, h1, h2⟩ := keyW_of hk
        exact .inr ⟨_, ht, rfl, h1, h2⟩
      · exact .inl h
theorem stepW_from {x : StW} {l : List ByteArray} {e : K6 × ByteArray} (h : e ∈ (stepW x l).2.1) : e ∈ x.1 ∨ ∃ t, l = e.1.kind :: t ∧ e.2 = blankK (l.getD (l.length - 1) eS) ∧ langK e.1.lang = true ∧ widthK e.1.width = true := by
  match l, h with
  | [], h => exact .inl h
  | k :: l, h =>
    rw [stepW] at h
    split at h
    · exact textW_from h
    · split at h <;> exact .inl h
theorem loadW_from : ∀ (rs : List S41) (x : StW) (e : K6 × ByteArray), e ∈ (loadW rs x).2.2.1 → e ∈ x.1 ∨ KeyFrom rs e.1 e.2
  | [], x, e, h => .inl h
  | r :: rs, x, e, h => by
    rw [loadW] at h
    split at h
    · rcases loadW_from rs _ e h with h | ⟨q, hq, t, h⟩
      · rcases stepW_from h with h | ⟨t, h⟩
        · exact .inl h
        · exact .inr ⟨r, List.mem_cons_self, t, h⟩
      · exact .inr ⟨q, List.mem_cons_of_mem _ hq, t, h⟩
    · exact .inl h
theorem find4_hit {ks : List (K6 × ByteArray)} {kd la wd nm ca x : ByteArray} : ∀ {l : List ByteArray}, find4 ks kd la wd nm ca l = some x → ∃ ct, getK ks ⟨kd, la, wd, nm, ct, ca⟩ = some x
  | [], h => by cases h
  | ct :: r, h => by
    rw [find4] at h
    split at h
    · cases h; exact ⟨ct, by assumption⟩
    · exact find4_hit h
theorem find3_hit {ks : List (K6 × ByteArray)} {kd la wd nm x : ByteArray} {cts : List ByteArray} : ∀ {l : List ByteArray}, find3 ks kd la wd nm cts l = some x → ∃ ct ca, getK ks ⟨kd, la, wd, nm, ct, ca⟩ = some x
  | [], h => by cases h
  | ca :: r, h => by
    rw [find3] at h
    split at h
    · rename_i h4; cases h; obtain ⟨ct, h⟩ := find4_hit h4; exact ⟨ct, ca, h⟩
    · exact find3_hit h
theorem find2_hit {ks : List (K6 × ByteArray)} {kd la nm x : ByteArray} {cts cas : List ByteArray} : ∀ {l : List ByteArray}, find2 ks kd la nm cts cas l = some x → ∃ wd ct ca, getK ks ⟨kd, la, wd, nm, ct, ca⟩ = some x
  | [], h => by cases h
  | wd :: r, h => by
    rw [find2] at h
    split at h
    · rename_i h4; cases h; obtain ⟨ct, ca, h⟩ := find3_hit h4; exact ⟨wd, ct, ca, h⟩
    · exact find2_hit h
theorem find1_hit {ks : List (K6 × ByteArray)} {kd nm x : ByteArray} {cts cas wds : List ByteArray} : ∀ {l : List ByteArray}, find1 ks kd nm cts cas wds l = some x → ∃ la wd ct ca, getK ks ⟨kd, la, wd, nm, ct, ca⟩ = some x
  | [], h => by cases h
  | la :: r, h => by
    rw [find1] at h
    split at h
    · rename_i h4; cases h; obtain ⟨wd, ct, ca, h⟩ := find2_hit h4; exact ⟨la, wd, ct, ca, h⟩
    · exact find1_hit h
theorem find1_first {ks : List (K6 × ByteArray)} {kd la wd nm ct ca x : ByteArray} (h : getK ks ⟨kd, la, wd, nm, ct, ca⟩ = some x) (cts cas wds r : List ByteArray) : find1 ks kd nm (ct :: cts) (ca :: cas) (wd :: wds) (la :: r) = some x := by
  have h4 : find4 ks kd la wd nm ca (ct :: cts) = some x := by rw [find4, h]
  have h3 : find3 ks kd la wd nm (ct :: cts) (ca :: cas) = some x := by rw [find3, h4]
  have h2 : find2 ks kd la nm (ct :: cts) (ca :: cas) (wd :: wds) = some x := by rw [find2, h3]
  rw [find1, h2]
theorem getK_mem {k : K6} {x : ByteArray} : ∀ {ks : List (K6 × ByteArray)}, getK ks k = some x → (k, x) ∈ ks
  | [], h => by cases h
  | e :: ks, h => by
    rw [getK] at h
    split at h
    · rename_i he; cases h; subst he; exact List.mem_cons_self
    · exact List.mem_cons_of_mem _ (getK_mem h)
end Go.Proofs.YthefdpioaapomaaGreatDoor.Ext
