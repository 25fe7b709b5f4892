/- The engine: small laws that the walks share. -/
import Derived.Test.YtcflokckfjkdpaaDoorEngG
set_option linter.unusedVariables false
set_option linter.unusedSimpArgs false
namespace Go.Proofs.YtcflokckfjkdpaaDoor.Eng
open Go Go.RowKit

theorem tmod_nn {a b : Int} (h : 0 ≤ a) : a.tmod b = a % b := Int.tmod_eq_emod_of_nonneg h
theorem tdiv_nn {a b : Int} (h : 0 ≤ a) : a.tdiv b = a / b := Int.tdiv_eq_ediv_of_nonneg h
theorem fdiv_nn {a b : Int} (h : 0 ≤ b) : a.fdiv b = a / b := Int.fdiv_eq_ediv_of_nonneg a h
theorem cells_agg (cs : Array Value) : (Value.agg cs).cells = cs := rfl
theorem cells_int (k : IntKind) (n : Int) : (Value.int k n).cells = #[.int k n] := rfl
theorem cells_sl (a : Option Addr) (n c : Nat) : (Value.slice a n c).cells = #[.slice a n c] := rfl
theorem cells_ptr (a : Option Addr) : (Value.pointer a).cells = #[.pointer a] := rfl
theorem cells_bool (b : Bool) : (Value.bool b).cells = #[.bool b] := rfl
theorem nums_cons (k : IntKind) (x : Int) (l : List Int) : nums k (x :: l) = .int k x :: nums k l := rfl
theorem nums_nil (k : IntKind) : nums k [] = [] := rfl
theorem at_set (l : List Int) (i j : Int) (x : Int) (h0 : 0 ≤ i) (hj : 0 ≤ j) (hi : i < l.length) : at' (l.set i.toNat x) j = if i = j then x else at' l j := by
  unfold at'
  by_cases h : i = j
  · subst h
    have : i.toNat < l.length := by omega
    simp [List.getD_eq_getElem?_getD, this]
  · have : i.toNat ≠ j.toNat := by omega
    simp [List.getD_eq_getElem?_getD, h, List.getElem?_set_ne this]
/-- A call that is quiet, by its contract. -/
theorem quiet_of {P : Program} {f : FuncId} {args : List Value} {w : World} {K : Value → Prop} (v : Value) (h : ∀ w' (K' : Value → World → Prop), K' v w' → callK P f args w' K') (hK : K v) : qcallK P f args w K :=
  ⟨v, fun n => h _ _ ⟨rfl, n, rfl⟩, hK⟩
theorem Blk.cellsAt0 {w : World} {b : Nat} {cs : List Value} (h : Blk w b cs) : Eng.cellsAt w ⟨b, 0, none⟩ cs := by have := h.cellsAt 0; rwa [List.drop_zero] at this
theorem Blk.part {w : World} {b : Nat} {cs : List Value} (h : Blk w b cs) (o n : Nat) : Eng.cellsAt w ⟨b, o, none⟩ ((cs.drop o).take n) := (h.cellsAt o).take n
/-- A block written over as a whole. -/
theorem Blk.over {w : World} {b : Nat} {old cs : List Value} (h : Blk w b old) (hl : cs.length = old.length) : Blk (w.setCells b 0 cs) b cs := by
  have := h.setCells cs 0 w old (by omega)
  simpa [hl] using this
theorem Blk.st {w : World} {b n : Nat} {old : List Value} {cs : Array Value} {K : World → Prop} (h : Blk w b old) (hl : cs.size = n) (hn : old.length = n) (h1 : ∀ u ∈ cs.toList, u.oneCell' = true) (hK : K (w.setCells b 0 cs.toList)) : stK n ⟨b, 0, none⟩ (.agg cs) w K := by
  rw [st_agg]
  exact ⟨hl, h1, fun j hj => h.isSome (by omega), fun j hj => h.frozen _, hK⟩
theorem Blk.stAt {w : World} {b o n : Nat} {old : List Value} {cs : Array Value} {K : World → Prop} (h : Blk w b old) (hl : cs.size = n) (hn : o + n ≤ old.length) (h1 : ∀ u ∈ cs.toList, u.oneCell' = true) (hK : K (w.setCells b o cs.toList)) : stK n ⟨b, o, none⟩ (.agg cs) w K := by
  rw [st_agg]
  exact ⟨hl, h1, fun j hj => h.isSome (by omega), fun j hj => h.frozen _, hK⟩
theorem Blk.ldAgg {w : World} {b n : Nat} {cs : List Value} {K : Value → Prop} (h : Blk w b cs) (hn : cs.length = n) (hK : K (.agg cs.toArray)) : ldK w (.agg n) ⟨b, 0, none⟩ K := ⟨cs, hn, h.cellsAt0, hK⟩
theorem Blk.ldAggAt {w : World} {b o n : Nat} {cs : List Value} {K : Value → Prop} (h : Blk w b cs) (hn : o + n ≤ cs.length) (hK : K (.agg ((cs.drop o).take n).toArray)) : ldK w (.agg n) ⟨b, o, none⟩ K := ⟨_, by simp; omega, h.part o n, hK⟩
theorem Blk.has {w : World} {b : Nat} {cs : List Value} (h : Blk w b cs) (j : Nat) (v : Value) (hj : cs[j]? = some v) : w.cell? ⟨b, j, none⟩ = some v := by rw [h.cell?, hj]

theorem Blk.whole {w : World} {b : Nat} {old : List Value} (h : Blk w b old) (new : List Value) (hl : new.length = old.length) : ∀ j, j < new.toArray.size → (w.cell? ⟨b, j, none⟩).isSome = true := by
  intro j hj; rw [List.size_toArray, hl] at hj; exact h.isSome hj
theorem Blk.wholeAt {w : World} {b : Nat} {old : List Value} (h : Blk w b old) (o : Nat) (new : List Value) (hl : o + new.length ≤ old.length) : ∀ j, j < new.toArray.size → (w.cell? ⟨b, o + j, none⟩).isSome = true := by
  intro j hj; rw [List.size_toArray] at hj; exact h.isSome (by omega)
theorem at_toNat (l : List Int) (i : Int) : at' l (i.toNat : Int) = at' l i := by unfold at'; rw [Int.toNat_natCast]
theorem Blk.numN {w : World} {b : Nat} {k : IntKind} {l : List Int} (h : Blk w b (nums k l)) {j : Nat} (hj : j < l.length) : w.cell? ⟨b, j, none⟩ = some (.int k (at' l j)) := by
  rw [h.cell?]; simpa [at'] using nums_get hj
theorem cellsAt.numN {w : World} {p : Addr} {k : IntKind} {l : List Int} (h : Eng.cellsAt w p (nums k l)) {j : Nat} (hj : j < l.length) : w.cell? (p.add j) = some (.int k (at' l j)) := by
  have := h j _ (nums_get hj)
  simpa [at'] using this
/-- A world with one block more. -/
structure New (w w' : World) (l : List Value) : Prop where
  size : w'.heap.size = w.heap.size + 1
  blk : Blk w' w.heap.size l
  keep : ∀ {b : Nat} {cs : List Value}, Blk w b cs → Blk w' b cs
  below : ∀ {B : Nat} {a : World}, B ≤ w.heap.size → Below B a w → Below B a w'
  rd : ∀ {A : Option Addr} {vs : List Value}, Rd w A vs → Rd w' A vs
theorem new_of {w w' : World} {cs : Array Value} {t : TypeId} {l : List Value} (e : w.alloc (.cells cs t) = w') (h : cs.toList = l) : New w w' l := by
  subst e
  have hb : Below w.heap.size w (w.alloc (.cells cs t)) := (Below.refl _ _).alloc (Nat.le_refl _) _
  exact ⟨by simp only [size_alloc], Blk.new' h t, fun h => h.alloc _, fun hB h => h.alloc hB _, fun h => h.below hb⟩
/-- A world with one block written. -/
structure Put (w w' : World) (b : Nat) (l : List Value) : Prop where
  size : w'.heap.size = w.heap.size
  blk : Blk w' b l
  keep : ∀ {b' : Nat} {cs : List Value}, b' ≠ b → Blk w b' cs → Blk w' b' cs
  below : ∀ {B : Nat} {a : World}, B ≤ b → Below B a w → Below B a w'
  other : ∀ b', b' ≠ b → w'.heap[b']? = w.heap[b']?
theorem put_cell {w : World} {b : Nat} {cs : List Value} (h : Blk w b cs) (m j : Nat) (v : Value) : Put w ((w.drewN m).setCell ⟨b, j, none⟩ v) b (cs.set j v) :=
  ⟨by simp only [size_setCell, size_drewN], (h.drewN m).setCell j v, fun hb h => (h.drewN m).setOther hb v, fun hB h => (below_drewN' h m).setCell hB v, fun b' hb => heap_setCell_other (w.drewN m) ⟨b, j, none⟩ b' v hb⟩
theorem put_cell0 {w : World} {b : Nat} {cs : List Value} (h : Blk w b cs) (j : Nat) (v : Value) : Put w (w.setCell ⟨b, j, none⟩ v) b (cs.set j v) :=
  ⟨by simp only [size_setCell], h.setCell j v, fun hb h => h.setOther hb v, fun hB h => h.setCell hB v, fun b' hb => heap_setCell_other w ⟨b, j, none⟩ b' v hb⟩
theorem put_cells {w : World} {b : Nat} {cs : List Value} (h : Blk w b cs) (o : Nat) (vs : List Value) (hl : o + vs.length ≤ cs.length) : Put w (w.setCells b o vs) b (cs.take o ++ vs ++ cs.drop (o + vs.length)) :=
  ⟨setCells_size b vs o w, h.setCells vs o w cs hl, fun hb h => h.setCellsOther hb o vs, fun hB h => setCells_below hB vs o h, fun b' hb => setCells_heap b vs o w b' hb⟩
theorem put_over {w : World} {b : Nat} {cs : List Value} (h : Blk w b cs) (vs : List Value) (hl : vs.length = cs.length) : Put w (w.setCells b 0 vs) b vs := by
  have := put_cells h 0 vs (by omega)
  simpa [hl] using this
/-- The store of a whole block. -/
theorem st_whole {w : World} {b n : Nat} {old cs : List Value} {K : World → Prop} (h : Blk w b old) (hl : cs.length = n) (hn : old.length = n) (h1 : ∀ u ∈ cs, u.oneCell' = true) (hK : ∀ w', Put w w' b cs → K w') : stK n ⟨b, 0, none⟩ (.agg cs.toArray) w K :=
  h.st (by simpa using hl) hn (by simpa using h1) (hK _ (by rw [List.toList_toArray]; exact put_over h cs (by omega)))
theorem st_part {w : World} {b o n : Nat} {old cs : List Value} {K : World → Prop} (h : Blk w b old) (hl : cs.length = n) (hn : o + n ≤ old.length) (h1 : ∀ u ∈ cs, u.oneCell' = true) (hK : ∀ w', Put w w' b (old.take o ++ cs ++ old.drop (o + cs.length)) → K w') : stK n ⟨b, o, none⟩ (.agg cs.toArray) w K :=
  h.stAt (by simpa using hl) hn (by simpa using h1) (hK _ (by rw [List.toList_toArray]; exact put_cells h o cs (by omega)))
theorem al_k {w : World} {cs : Array Value} {t : TypeId} {K : World → Prop} (l : List Value) (h : cs.toList = l) (hK : ∀ w', New w w' l → K w') : alT cs t w K .mk := hK _ (new_of rfl h)
/-- The store of a number. -/
theorem st_num {w : World} {b : Nat} {k : IntKind} {l : List Int} {j : Nat} {x : Int} {K : World → Prop} (h : Blk w b (nums k l)) (hj : j < l.length) (hK : ∀ w', Put w w' b (nums k (l.set j x)) → K w') : stK 1 ⟨b, j, none⟩ (.int k x) w K := by
  rw [st_int]
  have := put_cell0 h j (.int k x)
  rw [nums_set] at this
  exact ⟨h.isSome (by rw [nums_length]; exact hj), h.frozen _, hK _ this⟩
theorem st_one {w : World} {b : Nat} {l : List Value} {j : Nat} {v : Value} {K : World → Prop} (h : Blk w b l) (hj : j < l.length) (hv : v.oneCell' = true) (hK : ∀ w', Put w w' b (l.set j v) → K w') : stK 1 ⟨b, j, none⟩ v w K := by
  rw [st_scalar hv]
  exact ⟨h.isSome hj, h.frozen _, hK _ (put_cell0 h j v)⟩
theorem fill8 (k : IntKind) (a0 a1 a2 a3 a4 a5 a6 a7 : Int) : fillL [(0, 1), (1, 1), (2, 1), (3, 1), (4, 1), (5, 1), (6, 1), (7, 1)] (Array.replicate 8 (Value.int k 0)) [(0, .int k a0), (1, .int k a1), (2, .int k a2), (3, .int k a3), (4, .int k a4), (5, .int k a5), (6, .int k a6), (7, .int k a7)] = some (nums k [a0, a1, a2, a3, a4, a5, a6, a7]).toArray := by kernel_rfl
/-- A step so many times. -/
def rounds {σ : Type} (f : Nat → σ → σ) : Nat → σ → σ
  | 0, s => s
  | n + 1, s => f n (rounds f n s)
end Go.Proofs.YtcflokckfjkdpaaDoor.Eng
