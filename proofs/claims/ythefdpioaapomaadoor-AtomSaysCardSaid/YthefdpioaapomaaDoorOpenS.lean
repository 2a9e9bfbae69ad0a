/- Names and prefixes that came in; an atom that came in, with its reading. -/
import Derived.Test.YthefdpioaapomaaDoorOpen9
namespace Go.Proofs.YthefdpioaapomaaDoor.Laid
open Go.ChangeShapes Go.WideShapes Go.ChangeAt Go.RowKit Go.Proofs.YthefdpioaapomaaDoorW.PrintWords
theorem strsOf {H : Type} {enc : TypeId × Value → H} {W : World} {base : Nat} {sp : Nat → Bool} {held : Bool} {n : Nat} {cs : List Value} {y : DataW H × List MemPlace}
    (hf : DataW.trod enc Tryd.prog W base sp held n 29 cs = some y) : ∃ (A : Option Addr) (l : List ByteArray) (c : Nat), cs = [.slice A l.length c] ∧ l.length ≤ c ∧ Kd.C Kd.string W A l.length l ∧ ∀ s ∈ l, s.size ≤ maxLen := by
  rcases open_strings Tryd.underlying29 Tryd.underlying9 (by kernel_rfl) hf with ⟨hcs, _⟩ | ⟨x, len, cap, ss, hcs, _, hl, hm, hz, _, hcell, hmax⟩
  · exact ⟨none, [], 0, hcs, Nat.le_refl _, ⟨rfl, by decide, fun h => absurd h (by simp)⟩, by simp⟩
  · have hss : len ≤ ss.length := by rw [hz]; split <;> omega
    have hlen : (ss.take len).length = len := by rw [List.length_take]; omega
    refine ⟨some x, ss.take len, cap, by rw [hlen, hcs], by rw [hlen]; exact hl, ⟨rfl, by rw [hlen]; unfold maxLen at hm; omega, fun h0 => ⟨x, rfl, fun j y hy => ⟨[.string y], rfl, rfl, fun i v hv => ?_⟩⟩⟩, fun s hs => hmax s ((List.take_sublist _ _).subset hs)⟩
    have hj : j < (ss.take len).length := (List.getElem?_eq_some_iff.1 hy).1
    rw [hlen] at hj
    rw [List.getElem?_take_of_lt hj] at hy
    cases i with
    | zero =>
      obtain rfl := Option.some.inj hv
      have hc := hcell j (by omega)
      have hy' : ss.getD j ByteArray.empty = y := by rw [List.getD_eq_getElem?_getD, hy]; rfl
      rw [hy'] at hc
      simpa [Kd.string, Kd.scalar, Addr.add] using hc
    | succ i => simp at hv
theorem open_strsM {H : Type} {enc : TypeId × Value → H} {W : World} {base : Nat} {sp : Nat → Bool} {held : Bool} {a : Option Addr} {len cap : Nat} {d : DataW H} {p : List MemPlace}
    (h : DataW.Trod enc Tryd.prog W base sp held 29 (.slice a len cap) d p) : ∃ l : List ByteArray, l.length = len ∧ len ≤ cap ∧ Kd.C Kd.string W a l.length l ∧ ∀ s ∈ l, s.size ≤ maxLen := by
  obtain ⟨fuel, hf⟩ := h
  obtain ⟨A, l, c, hcs, hl, hC, hm⟩ := strsOf hf
  simp [Value.cells] at hcs
  obtain ⟨rfl, rfl, rfl⟩ := hcs
  exact ⟨l, rfl, hl, hC, hm⟩
set_option maxRecDepth 100000 in
theorem open_known {H : Type} {enc : TypeId × Value → H} {W : World} {base b0 : Nat} {r : Reach} {sp : Nat → Bool} {held : Bool} {v : Value} {d : DataW H} {p : List MemPlace}
    (hv : Value.okWide Tryd.prog W r b0 53 v) (h : DataW.Trod enc Tryd.prog W base sp held 53 v d p) : ∃ (A0 : Option Addr) (l0 : List ByteArray) (c0 : Nat) (A1 : Option Addr) (l1 : List ByteArray) (c1 : Nat), v = .agg #[.slice A0 l0.length c0, .slice A1 l1.length c1] ∧
      l0.length ≤ c0 ∧ Kd.C Kd.string W A0 l0.length l0 ∧ (∀ s ∈ l0, s.size ≤ maxLen) ∧ l1.length ≤ c1 ∧ Kd.C Kd.string W A1 l1.length l1 ∧ (∀ s ∈ l1, s.size ≤ maxLen) := by
  obtain ⟨cs, rfl, _⟩ := okWide_struct Tryd.underlying53 hv
  obtain ⟨fuel, hf⟩ := h
  have hc29 : Tryd.prog.cellsOf 29 = 1 := by kernel_rfl
  have hc53 : Tryd.prog.cellsOf 53 = 2 := by kernel_rfl
  obtain ⟨xs, n, _, hx, hl, hlen, hff⟩ := DataW.trod_struct Tryd.underlying53 hf
  have hcs : (Value.agg cs).cells = cs := by simp [Value.cells]
  rw [hcs] at hl hff
  rw [hc53] at hl
  have hl2 : xs.length = 2 := hlen
  match xs, hl2 with
  | [y0, y1], _ =>
    have h0 := hff 0 _ rfl
    have h1 := hff 1 _ rfl
    replace h0 : DataW.trod enc Tryd.prog W base sp held n 29 ((cs.toList.drop 0).take (Tryd.prog.cellsOf 29)) = some y0 := by simpa using h0
    replace h1 : DataW.trod enc Tryd.prog W base sp held n 29 ((cs.toList.drop 1).take (Tryd.prog.cellsOf 29)) = some y1 := by simpa using h1
    rw [hc29] at h0 h1
    obtain ⟨A0, l0, c0, e0, g0, C0, m0⟩ := strsOf h0
    obtain ⟨A1, l1, c1, e1, g1, C1, m1⟩ := strsOf h1
    refine ⟨A0, l0, c0, A1, l1, c1, ?_, g0, C0, m0, g1, C1, m1⟩
    congr 1
    apply Array.ext'
    generalize cs.toList = L at hl e0 e1
    match L, hl with
    | [u0, u1], _ =>
      simp at e0 e1
      rw [e0, e1]
set_option maxRecDepth 100000 in
theorem open_atomS {H : Type} {enc : TypeId × Value → H} {W : World} {base b0 : Nat} {r : Reach} {sp : Nat → Bool} {held : Bool} {v : Value} {d : DataW H} {p : List MemPlace}
    (hv : Value.okWide Tryd.prog W r b0 49 v) (h : DataW.Trod enc Tryd.prog W base sp held 49 v d p) : ∃ (x y : ByteArray) (n : Int), v = .agg #[.string x, .string y, .int .i64 n] ∧ d = .agg [.lit (.string x.data.toList), .lit (.string y.data.toList), .lit (.int .i64 n)] := by
  obtain ⟨cs, rfl, _⟩ := okWide_struct Tryd.underlying49 hv
  obtain ⟨fuel, hf⟩ := h
  have hc9 : Tryd.prog.cellsOf 9 = 1 := by kernel_rfl
  have hc3 : Tryd.prog.cellsOf 3 = 1 := by kernel_rfl
  have hc49 : Tryd.prog.cellsOf 49 = 3 := by kernel_rfl
  obtain ⟨y0, y1, y2, n, hd, hl, h0, h1, h2⟩ := Go.Deep.trod_struct3 Tryd.underlying49 hf
  obtain ⟨s0, e0, r0⟩ := DataW.trod_string Tryd.underlying9 h0
  obtain ⟨s1, e1, r1⟩ := DataW.trod_string Tryd.underlying9 h1
  obtain ⟨m, e2, r2⟩ := DataW.trod_int Tryd.underlying3 h2
  have hcs : (Value.agg cs).cells = cs := by simp [Value.cells]
  rw [hcs] at hl e0 e1 e2
  rw [hc49] at hl
  replace e0 : (cs.toList.drop 0).take (Tryd.prog.cellsOf 9) = [.string s0] := e0
  replace e1 : (cs.toList.drop 1).take (Tryd.prog.cellsOf 9) = [.string s1] := e1
  replace e2 : (cs.toList.drop 2).take (Tryd.prog.cellsOf 3) = [.int .i64 m] := e2
  rw [hc9] at e0 e1
  rw [hc3] at e2
  refine ⟨s0, s1, m, ?_, ?_⟩
  · congr 1
    apply Array.ext'
    generalize cs.toList = L at hl e0 e1 e2
    match L, hl with
    | [u0, u1, u2], _ =>
      simp at e0 e1 e2
      rw [e0, e1, e2]
  · have hd1 := congrArg Prod.fst hd
    dsimp only at hd1
    rw [hd1]
    obtain ⟨rfl, _⟩ := r0
    obtain ⟨rfl, _⟩ := r1
    obtain ⟨rfl, _⟩ := r2
    rfl
/-- An atom's texts are within reach. -/
theorem atom_reach {H : Type} {ts : List TypeId} {ds : List (DataW H)} (h : (DataW.weightsEach Tryd.prog ts ds).all (· ≤ reachBytes) = true) {j : Nat} {x y : List UInt8} {n : Int} (ht : ts[j]? = some 49) (hd : ds[j]? = some (.agg [.lit (.string x), .lit (.string y), .lit (.int .i64 n)])) : x.length ≤ reachBytes ∧ y.length ≤ reachBytes := by
  have key : ∀ m : Nat, m ∈ (DataW.agg [.lit (.string x), .lit (.string y), .lit (.int .i64 n)] : DataW H).weights Tryd.prog 49 → m ≤ reachBytes := fun m hm => of_decide_eq_true (List.all_eq_true.1 h _ (DataW.weights_mem_each ht hd m hm))
  exact ⟨key _ (by simp [DataW.weights, DataW.weightsEach, Tryd.underlying49]), key _ (by simp [DataW.weights, DataW.weightsEach, Tryd.underlying49])⟩
theorem len_map {l : List ByteArray} (h : ∀ s ∈ l, s.size ≤ maxLen) : ∀ s ∈ l.map (·.data.toList), s.length ≤ maxLen := by
  intro s hs
  obtain ⟨x, hx, rfl⟩ := List.mem_map.1 hs
  have := h x hx
  rwa [Lib.size_eq] at this
theorem atom_sum {x y : ByteArray} (h1 : x.data.toList.length ≤ reachBytes) (h2 : y.data.toList.length ≤ reachBytes) : x.size + y.size ≤ 1000000000000000 := by
  rw [← Lib.size_eq] at h1 h2
  have h3 : reachBytes < 2 ^ 47 := reachBytes_lt
  omega
end Go.Proofs.YthefdpioaapomaaDoor.Laid
