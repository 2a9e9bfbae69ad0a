/- A map that a call makes and keeps, its keys and elements as they are: what stands at a key, a store, a map of its own behind a call that leaves it alone. -/
import Derived.Test.YthefdpioaapomaaDoorExtA
import Derived.Maps.OwnOps
import Derived.Maps.OwnSet
import Derived.Maps.Views
import Derived.StringKeys
import Derived.DeepKeys4
namespace Go.Proofs.YthefdpioaapomaaDoor.Ext
set_option linter.unusedVariables false
set_option linter.unusedSimpArgs false
open Go.RowKit Go.Proofs.YthefdpioaapomaaDoorW.PrintWords Go.Proofs.YthefdpioaapomaaDoorW.PrintLast Go.Maps Go.WideMaps

/-- An element, as it is. -/
def rawE (v : Value) : Option (DataW Value × List MemPlace) := some (.held v, [])
def okKey (P : Program) (kt : TypeId) (k : Value) : Prop := (keyOf P kt k).isSome = true
def kl (P : Program) (kt : TypeId) (k : Value) : Lit := (keyOf P kt k).getD (.string [])
theorem kl_eq {P : Program} {kt : TypeId} {k : Value} (h : okKey P kt k) : keyOf P kt k = some (kl P kt k) := by
  unfold okKey at h
  unfold kl
  obtain ⟨l, hl⟩ := Option.isSome_iff_exists.1 h
  rw [hl]
  rfl
section
variable {α : Type} (P : Program) (kt : TypeId) (enc : α → Value)
def mapD : List (α × Value) → DataW Value
  | [] => .map []
  | e :: es => (mapD es).put (kl P kt (enc e.1)) (.held e.2)
def getM [DecidableEq α] : List (α × Value) → α → Option Value
  | [], _ => none
  | e :: es, k => if e.1 = k then some e.2 else getM es k
theorem mapD_map : ∀ es : List (α × Value), IsMap (mapD P kt enc es)
  | [] => ⟨[], rfl⟩
  | e :: es => by
    obtain ⟨l, h⟩ := mapD_map es
    unfold mapD
    rw [h]
    exact ⟨_, rfl⟩
variable {P kt enc}
theorem mapD_at [DecidableEq α] (K : Keyed P kt) (hinj : ∀ a b : α, enc a = enc b → a = b) {k : α} (hk : okKey P kt (enc k)) (z : Value) : ∀ es : List (α × Value), (∀ e ∈ es, okKey P kt (enc e.1)) → (mapD P kt enc es).atKey (kl P kt (enc k)) (.held z) = .held ((getM es k).getD z)
  | [], _ => rfl
  | e :: es, h => by
    have he := h e List.mem_cons_self
    have ih := mapD_at K hinj hk z es (fun x hx => h x (List.mem_cons_of_mem _ hx))
    unfold mapD getM
    by_cases hek : e.1 = k
    · rw [if_pos hek, hek, atKey_put_same (mapD_map P kt enc es) (K.key (kl_eq hk))]
      rfl
    · rw [if_neg hek, atKey_put_other (fun h2 => hek (hinj _ _ (K.inj (kl_eq he) (by rw [← h2]; exact kl_eq hk)))), ih]
theorem mapD_has [DecidableEq α] (K : Keyed P kt) (hinj : ∀ a b : α, enc a = enc b → a = b) {k : α} (hk : okKey P kt (enc k)) : ∀ es : List (α × Value), (∀ e ∈ es, okKey P kt (enc e.1)) → Maps.has (mapD P kt enc es) (kl P kt (enc k)) = (getM es k).isSome
  | [], _ => rfl
  | e :: es, h => by
    have he := h e List.mem_cons_self
    have ih := mapD_has K hinj hk es (fun x hx => h x (List.mem_cons_of_mem _ hx))
    unfold mapD getM
    by_cases hek : e.1 = k
    · rw [if_pos hek, hek, has_put_same (mapD_map P kt enc es) (K.key (kl_eq hk))]
      rfl
    · rw [if_neg hek, has_put_other (fun h2 => hek (hinj _ _ (K.inj (kl_eq he) (by rw [← h2]; exact kl_eq hk)))), ih]
/-- Block M is a map of at most n entries: es, the youngest first. -/
structure MapAt (P : Program) (kt : TypeId) (enc : α → Value) (w : World) (M n : Nat) (es : List (α × Value)) : Prop where
  own : w.ownsMap P kt rawE M n (mapD P kt enc es)
  ok : ∀ e ∈ es, okKey P kt (enc e.1)
theorem MapAt.made (w : World) : MapAt P kt enc (w.alloc (.map #[] 0)) w.heap.size 0 [] := ⟨World.ownsMap_made _ _ _ _, by simp⟩
theorem MapAt.kept {w w' : World} {M n : Nat} {es : List (α × Value)} (h : MapAt P kt enc w M n es) {row : Option Nat} (hg : w.grownBy w' row) (hne : some M ≠ row) : MapAt P kt enc w' M n es := ⟨h.own.kept hg hne, h.ok⟩
theorem MapAt.below {w w' : World} {M n : Nat} {es : List (α × Value)} (h : MapAt P kt enc w M n es) (hb : Below w.heap.size w w') : MapAt P kt enc w' M n es := h.kept (grown_of_below hb none) (by simp)
theorem MapAt.lt {w : World} {M n : Nat} {es : List (α × Value)} (h : MapAt P kt enc w M n es) : M < w.heap.size := h.own.lt
theorem MapAt.blk {w : World} {M n : Nat} {es : List (α × Value)} (h : MapAt P kt enc w M n es) : ∃ a b, w.heap[M]? = some (.map a b) := by
  obtain ⟨a, b, hb, _⟩ := h.own
  exact ⟨a, b, hb⟩
/-- What a look-up answers. -/
theorem MapAt.look [DecidableEq α] {w : World} {M n : Nat} {es : List (α × Value)} (h : MapAt P kt enc w M n es) (K : Keyed P kt) (hinj : ∀ a b : α, enc a = enc b → a = b) {t e : TypeId} (ht : P.underlying t = some (.map kt e)) {z : Value} (hz : (zeroValue e).run P w = .ok z w) {k : α} (hk : okKey P kt (enc k)) :
    (Instr.lookup t (.map (some M)) (enc k) false).run P w = .ok ((getM es k).getD z) w := by
  obtain ⟨v, ps, hrun, hv⟩ := h.own.lookup K ht hz (zd := .held z) (zp := []) rfl (kl_eq hk)
  rw [mapD_at K hinj hk z es h.ok] at hv
  unfold rawE at hv
  simp only [Option.some.injEq, Prod.mk.injEq, DataW.held.injEq] at hv
  rw [hrun, hv.1]
/-- .. with 'ok'. -/
theorem MapAt.lookOk [DecidableEq α] {w : World} {M n : Nat} {es : List (α × Value)} (h : MapAt P kt enc w M n es) (K : Keyed P kt) (hinj : ∀ a b : α, enc a = enc b → a = b) {t e : TypeId} (ht : P.underlying t = some (.map kt e)) {z : Value} (hz : (zeroValue e).run P w = .ok z w) {k : α} (hk : okKey P kt (enc k)) :
    (Instr.lookup t (.map (some M)) (enc k) true).run P w = .ok (.tuple #[(getM es k).getD z, .bool (getM es k).isSome]) w := by
  obtain ⟨v, ps, hrun, hv⟩ := h.own.look_ok K ht hz (zd := .held z) (zp := []) rfl (kl_eq hk)
  rw [mapD_at K hinj hk z es h.ok] at hv
  unfold rawE at hv
  simp only [Option.some.injEq, Prod.mk.injEq, DataW.held.injEq] at hv
  rw [hrun, hv.1, mapD_has K hinj hk es h.ok]
/-- A store. -/
theorem MapAt.put {w : World} {M n : Nat} {es : List (α × Value)} (h : MapAt P kt enc w M n es) (K : Keyed P kt) {t e : TypeId} (ht : P.underlying t = some (.map kt e)) (hn : n < maxLen) {k : α} (hk : okKey P kt (enc k)) (v : Value) :
    ∃ w', (Instr.mapUpdate t (.map (some M)) (enc k) v).run P w = .ok () w' ∧ MapAt P kt enc w' M (n + 1) ((k, v) :: es) ∧ w.grownBy w' (some M) := by
  obtain ⟨w', hrun, hown, hg⟩ := h.own.update K ht hn (kl_eq hk) (val := v) (d := .held v) (ps := []) rfl
  refine ⟨w', hrun, ⟨hown, fun x hx => ?_⟩, hg⟩
  rcases List.mem_cons.1 hx with rfl | hx
  · exact hk
  · exact h.ok x hx
/-- A row of strings is none of a map's. -/
theorem C_map {w w' : World} {A : Option Addr} {n : Nat} {xs : List ByteArray} {M : Nat} {x : Array MapEntry} {c : Nat} (h : Kd.C Kd.string w A n xs) (hM : w.heap[M]? = some (.map x c)) (hg : w.grownBy w' (some M)) : Kd.C Kd.string w' A n xs := by
  obtain ⟨h1, h2, h3⟩ := h
  refine ⟨h1, h2, fun hn => ?_⟩
  obtain ⟨ad, e, hc⟩ := h3 hn
  refine ⟨ad, e, fun j p hp => ?_⟩
  obtain ⟨cs, hl, hK, hcell⟩ := hc j p hp
  refine ⟨cs, hl, hK, fun i v hv => ?_⟩
  have h4 := hcell i v hv
  refine cell_grown hg h4 (fun e => ?_)
  injection e with e
  have h5 : w.cell? (ad.add (j * Kd.string.sz + i)) = none := by
    unfold World.cell?
    rw [e, hM]
  rw [h5] at h4
  cases h4
end
end Go.Proofs.YthefdpioaapomaaDoor.Ext
