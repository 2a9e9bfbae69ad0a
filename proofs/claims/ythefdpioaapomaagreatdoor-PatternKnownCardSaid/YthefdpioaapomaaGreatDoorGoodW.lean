/- Chains of languages: each ends, none is long, and so it stays where a parent is laid whose chain has not its son. No memory in sight. -/
import Derived.Test.YthefdpioaapomaaGreatDoorChainW
namespace Go.Proofs.YthefdpioaapomaaGreatDoor.Ext
set_option linter.unusedVariables false
set_option linter.unusedSimpArgs false
abbrev PsW := List (ByteArray × ByteArray)
theorem Ends.det {ps : PsW} : ∀ {f g : List ByteArray} {s : ByteArray}, Ends ps f s → Ends ps g s → f = g
  | [], _, _, h, _ => h.elim
  | _ :: _, [], _, _, h => h.elim
  | x :: c, y :: d, s, ⟨hx, h⟩, ⟨hy, k⟩ => by
    subst hx
    subst hy
    rcases h with ⟨h1, rfl⟩ | ⟨h1, h⟩ <;> rcases k with ⟨k1, rfl⟩ | ⟨k1, k⟩
    · rfl
    · exact absurd h1 k1
    · exact absurd k1 h1
    · rcases h with ⟨h2, rfl⟩ | ⟨p, h2, h3⟩ <;> rcases k with ⟨k2, rfl⟩ | ⟨q, k2, k3⟩
      · rfl
      · rw [h2] at k2; cases k2
      · rw [h2] at k2; cases k2
      · rw [h2] at k2
        obtain rfl := Option.some.inj k2
        rw [Ends.det h3 k3]
theorem Ends.suffix {ps : PsW} : ∀ {f : List ByteArray} {s x : ByteArray}, Ends ps f s → x ∈ f → x ≠ rootB → ∃ g, Ends ps g x ∧ g.length ≤ f.length
  | [], _, _, h, _, _ => h.elim
  | y :: c, s, x, h, hx, hr => by
    obtain ⟨rfl, h'⟩ := h
    rcases List.mem_cons.1 hx with rfl | hx
    · exact ⟨x :: c, ⟨rfl, h'⟩, Nat.le_refl _⟩
    · rcases h' with ⟨_, rfl⟩ | ⟨h1, ⟨_, rfl⟩ | ⟨p, _, h3⟩⟩
      · cases hx
      · exact absurd (List.mem_singleton.1 hx) hr
      · obtain ⟨g, hg, hl⟩ := Ends.suffix h3 hx hr
        exact ⟨g, hg, Nat.le_succ_of_le hl⟩
theorem nodup_le {α : Type} [DecidableEq α] : ∀ (d ys : List α), d.Nodup → (∀ x ∈ d, x ∈ ys) → d.length ≤ ys.length
  | [], _, _, _ => Nat.zero_le _
  | x :: d, ys, hn, hs => by
    rw [List.nodup_cons] at hn
    have hx := hs x List.mem_cons_self
    have h := nodup_le d (ys.erase x) hn.2 (fun y hy => (List.mem_erase_of_ne (fun e => by subst e; exact hn.1 hy)).2 (hs y (List.mem_cons_of_mem _ hy)))
    rw [List.length_erase_of_mem hx] at h
    have : 0 < ys.length := List.length_pos_of_mem hx
    rw [List.length_cons]
    omega
theorem getS_key {ps : PsW} {s p : ByteArray} : getS ps s = some p → s ∈ ps.map Prod.fst := by
  induction ps with
  | nil => intro h; cases h
  | cons e ps ih =>
    intro h
    rw [getS] at h
    rw [List.map_cons]
    split at h
    · rename_i he
      exact List.mem_cons.2 (.inl he.symm)
    · exact List.mem_cons_of_mem _ (ih h)
theorem Ends.body {ps : PsW} : ∀ {f : List ByteArray} {s : ByteArray}, Ends ps f s → ∃ d t, f = d ++ t ∧ t.length ≤ 2 ∧ d.Nodup ∧ ∀ x ∈ d, x ∈ ps.map Prod.fst
  | [], _, h => h.elim
  | x :: c, s, h => by
    have hf := h
    obtain ⟨rfl, h'⟩ := h
    rcases h' with ⟨_, rfl⟩ | ⟨h1, ⟨_, rfl⟩ | ⟨p, h2, h3⟩⟩
    · exact ⟨[], _, rfl, by simp, List.nodup_nil, fun x hx => by cases hx⟩
    · exact ⟨[], _, rfl, by simp, List.nodup_nil, fun x hx => by cases hx⟩
    · obtain ⟨d, t, hc, ht, hn, hk⟩ := Ends.body h3
      refine ⟨x :: d, t, by rw [hc]; rfl, ht, List.nodup_cons.2 ⟨fun hx => ?_, hn⟩, fun y hy => ?_⟩
      · obtain ⟨g, hg, hl⟩ := Ends.suffix h3 (by rw [hc]; exact List.mem_append_left _ hx) h1
        have e := Ends.det hg hf
        rw [e, List.length_cons] at hl
        omega
      · rcases List.mem_cons.1 hy with rfl | hy
        · exact getS_key h2
        · exact hk y hy
theorem Ends.short {ps : PsW} {f : List ByteArray} {s : ByteArray} (h : Ends ps f s) : f.length ≤ ps.length + 2 := by
  obtain ⟨d, t, rfl, ht, hn, hk⟩ := h.body
  have := nodup_le d _ hn hk
  rw [List.length_map] at this
  rw [List.length_append]
  omega
/-- A parent is laid; who has not the son on his way goes as before. -/
theorem Ends.keep {ps : PsW} {a b : ByteArray} : ∀ {f : List ByteArray} {s : ByteArray}, Ends ps f s → (a ∉ f ∨ a = rootB) → Ends ((a, b) :: ps) f s
  | [], _, h, _ => h.elim
  | x :: c, s, ⟨hx, h⟩, hn => by
    subst hx
    refine ⟨rfl, ?_⟩
    rcases h with h | ⟨h1, h⟩
    · exact .inl h
    · have hxa : ¬ a = x := fun e => by
        rcases hn with hn | hn
        · exact hn (e ▸ List.mem_cons_self)
        · exact h1 (e ▸ hn)
      refine .inr ⟨h1, ?_⟩
      rcases h with ⟨h2, h3⟩ | ⟨p, h2, h3⟩
      · exact .inl ⟨by rw [getS, if_neg hxa]; exact h2, h3⟩
      · exact .inr ⟨p, by rw [getS, if_neg hxa]; exact h2, h3.keep (hn.imp (fun h hm => h (List.mem_cons_of_mem _ hm)) id)⟩
theorem Ends.turn {ps : PsW} {a b : ByteArray} {fb : List ByteArray} (ha : getS ps a = none) (hb : Ends ps fb b) (hab : a ∉ fb) : ∀ {f : List ByteArray} {s : ByteArray}, Ends ps f s → a ∈ f → a ≠ rootB → ∃ g, Ends ((a, b) :: ps) g s
  | [], _, h, _, _ => h.elim
  | x :: c, s, ⟨hx, h⟩, hm, hr => by
    subst hx
    rcases h with ⟨h1, rfl⟩ | ⟨h1, h⟩
    · exact absurd ((List.mem_singleton.1 hm).trans h1) hr
    · by_cases hxa : a = x
      · subst hxa
        exact ⟨a :: fb, rfl, .inr ⟨h1, .inr ⟨b, by rw [getS, if_pos rfl], hb.keep (.inl hab)⟩⟩⟩
      · have hm' : a ∈ c := (List.mem_cons.1 hm).resolve_left hxa
        rcases h with ⟨h2, rfl⟩ | ⟨p, h2, h3⟩
        · exact absurd (List.mem_singleton.1 hm') hr
        · obtain ⟨g, hg⟩ := Ends.turn ha hb hab h3 hm' hr
          exact ⟨x :: g, rfl, .inr ⟨h1, .inr ⟨p, by rw [getS, if_neg hxa]; exact h2, hg⟩⟩⟩
/-- All chains end. -/
def AllEnd (ps : PsW) : Prop := ∀ s, ∃ f, Ends ps f s
theorem AllEnd.nil : AllEnd [] := fun s => by
  by_cases h : s = rootB
  · exact ⟨[s], rfl, .inl ⟨h, rfl⟩⟩
  · exact ⟨[s, rootB], rfl, .inr ⟨h, .inl ⟨rfl, rfl⟩⟩⟩
theorem AllEnd.put {ps : PsW} (h : AllEnd ps) {a b : ByteArray} {fb : List ByteArray} (ha : getS ps a = none) (hb : Ends ps fb b) (hab : a ∉ fb) : AllEnd ((a, b) :: ps) := fun s => by
  obtain ⟨f, hf⟩ := h s
  by_cases hr : a = rootB
  · exact ⟨f, hf.keep (.inr hr)⟩
  · by_cases hm : a ∈ f
    · exact Ends.turn ha hb hab hf hm hr
    · exact ⟨f, hf.keep (.inl hm)⟩
open Classical in
/-- The chain of a language. -/
noncomputable def chainW (ps : PsW) (s : ByteArray) : List ByteArray := if h : ∃ f, Ends ps f s then Classical.choose h else []
theorem chainW_ends {ps : PsW} (h : AllEnd ps) (s : ByteArray) : Ends ps (chainW ps s) s := by
  unfold chainW
  rw [dif_pos (h s)]
  exact Classical.choose_spec (h s)
theorem chainW_eq {ps : PsW} {f : List ByteArray} {s : ByteArray} (h : Ends ps f s) : chainW ps s = f := by
  have he : ∃ f, Ends ps f s := ⟨f, h⟩
  unfold chainW
  rw [dif_pos he]
  exact (Classical.choose_spec he).det h
end Go.Proofs.YthefdpioaapomaaGreatDoor.Ext
