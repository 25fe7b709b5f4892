/- The rows: lists of lists that are read. -/
import Derived.Test.YtibccpfocbdmaaaDoorRow
set_option linter.unusedVariables false
namespace Go.Proofs.YtibccpfocbdmaaaDoor.Row
open Go Go.ChangeShapes Go.WideShapes Go.ChangeAt Go.WideMaps Go.WideElems Go.RowKit Go.Proofs.YtibccpfocbdmaaaDoor.Eng
set_option maxRecDepth 100000
section
variable {H : Type} {enc : TypeId × Value → H} {P : Program}
theorem rd_of_cells {W : World} {a : Addr} {vs : List Value} (h : ∀ i, i < vs.length → W.cell? (a.add i) = vs[i]?) : Rd W (some a) vs := by
  by_cases h0 : vs = []
  · exact .inl h0
  · right
    have hp : 0 < vs.length := List.length_pos_iff.2 h0
    refine ⟨a, rfl, ?_, fun j v hj => ?_⟩
    · have h00 := h 0 hp
      rw [add_zero'] at h00
      rw [List.getElem?_eq_getElem hp] at h00
      unfold World.cell? at h00
      cases hh : W.heap[a.block]? with
      | none => rw [hh] at h00; simp at h00
      | some o => exact (Array.getElem?_eq_some_iff.1 hh).1
    · rw [h j (List.getElem?_eq_some_iff.1 hj).1, hj]
/-- A cell that is a slice of numbers. -/
theorem cell_sl {W : World} {e e1 : TypeId} {k : IntKind} {fuel : Nat} {cs : List Value} {y : DataW H × List MemPlace} (he : P.underlying e = some (.slice e1)) (he1 : P.underlying e1 = some (.int k)) (hc1 : P.cellsOf e1 = 1)
    (h : DataW.trod enc P W 0 (fun _ => true) true fuel e cs = some y) : ∃ (B : Option Addr) (c' : Nat) (p : List Int), cs = [.slice B p.length c'] ∧ p.length ≤ c' ∧ Rd W B (nums k p) ∧ ∀ n ∈ p, (Lit.int k n).wf = true := by
  rcases open_ints he he1 hc1 h with ⟨rfl, rfl⟩ | ⟨a, len, cap, zs, rfl, _, hl, hm, hz, hx, hcell, hwz⟩
  · exact ⟨none, 0, [], rfl, Nat.le_refl _, .inl rfl, fun n hn => by cases hn⟩
  · simp only [if_true] at hz
    have hlen : (zs.take len).length = len := by simp; omega
    refine ⟨some a, cap, zs.take len, by rw [hlen], by omega, rd_of_cells fun i hi => ?_, fun n hn => hwz n (List.mem_of_mem_take hn)⟩
    rw [nums_length, hlen] at hi
    rw [hcell i (by omega), nums_get (by omega)]
    congr 2
    rw [List.getD_eq_getElem?_getD, List.getD_eq_getElem?_getD, List.getElem?_take, if_pos hi]
/-- A slice of slices of numbers that came in. -/
theorem open_ll {W : World} {base : Nat} {t e e1 : TypeId} {k : IntKind} {v : Value} {d : DataW H} {p : List MemPlace} (ht : P.underlying t = some (.slice e)) (hc : P.cellsOf e = 1) (he : P.underlying e = some (.slice e1)) (he1 : P.underlying e1 = some (.int k)) (hc1 : P.cellsOf e1 = 1)
    (hval : Value.okWide P W .any base t v) (h : DataW.Trod enc P W 0 (fun _ => true) true t v d p) :
    ∃ (A : Option Addr) (c : Nat) (l : List (List Int)) (hs : List Value), v = .slice A l.length c ∧ l.length ≤ c ∧ l.length ≤ maxLen ∧ Rd W A hs ∧ hs.length = l.length ∧
      (∀ (i : Nat) (p : List Int) (u : Value), l[i]? = some p → hs[i]? = some u → ∃ (B : Option Addr) (c' : Nat), u = .slice B p.length c' ∧ p.length ≤ c' ∧ Rd W B (nums k p)) ∧ (∀ p ∈ l, ∀ n ∈ p, (Lit.int k n).wf = true) := by
  obtain ⟨a1, len, cap, rfl⟩ := okWide_slice ht hval
  obtain ⟨fuel, hf⟩ := h
  rcases DataW.trod_slice ht hf with ⟨hcs, hx⟩ | ⟨a, len', cap', elems, rest, n, _, hcs, hx, _, hl, hm, hlen, hel, _, _⟩
  · simp [Value.cells] at hcs
    obtain ⟨rfl, rfl, rfl⟩ := hcs
    exact ⟨none, 0, [], [], rfl, Nat.le_refl _, Nat.zero_le _, .inl rfl, rfl, fun i p u h => by simp at h, fun p hp => by cases hp⟩
  · simp [Value.cells] at hcs
    obtain ⟨rfl, rfl, rfl⟩ := hcs
    have each : ∀ i, i < len → ∃ q : List Int × Value, W.cell? (a.add i) = some q.2 ∧ (∃ (B : Option Addr) (c' : Nat), q.2 = .slice B q.1.length c' ∧ q.1.length ≤ c' ∧ Rd W B (nums k q.1)) ∧ ∀ n ∈ q.1, (Lit.int k n).wf = true := by
      intro i hi
      have h1 := hel i hi
      rw [List.getElem?_eq_getElem (by omega), hc, Nat.mul_one, Option.bind_eq_some_iff] at h1
      obtain ⟨cs', hcs', hy⟩ := h1
      obtain ⟨B, c', p, rfl, h2, h3, h4⟩ := cell_sl he he1 hc1 hy
      exact ⟨(p, _), cell_of_cells?_one hcs', ⟨B, c', rfl, h2, h3⟩, h4⟩
    have pick : ∃ f : Nat → List Int × Value, ∀ i, i < len → W.cell? (a.add i) = some (f i).2 ∧ (∃ (B : Option Addr) (c' : Nat), (f i).2 = .slice B (f i).1.length c' ∧ (f i).1.length ≤ c' ∧ Rd W B (nums k (f i).1)) ∧ ∀ n ∈ (f i).1, (Lit.int k n).wf = true :=
      ⟨fun i => if h : i < len then Classical.choose (each i h) else ([], .bool true), fun i hi => by simp only [dif_pos hi]; exact Classical.choose_spec (each i hi)⟩
    obtain ⟨f, hfi⟩ := pick
    refine ⟨some a, cap, (List.range len).map fun i => (f i).1, (List.range len).map fun i => (f i).2, by simp, by simpa using hl, by simp; omega, ?_, by simp, fun i p u h1 h2 => ?_, fun p hp => ?_⟩
    · refine rd_of_cells fun i hi => ?_
      simp at hi
      rw [(hfi i hi).1]
      simp [hi]
    · have hi : i < len := by
        have := (List.getElem?_eq_some_iff.1 h1).1
        simpa using this
      simp [hi] at h1 h2
      subst h1; subst h2
      exact (hfi i hi).2.1
    · obtain ⟨i, hi, rfl⟩ := List.mem_map.1 hp
      exact (hfi i (List.mem_range.1 hi)).2.2
end
end Go.Proofs.YtibccpfocbdmaaaDoor.Row
