/- The engine: memory. -/
import Derived.Test.YtcflokckfjkdpaaDoorEngF
import Derived.Below
set_option linter.unusedVariables false
set_option linter.unusedSimpArgs false
namespace Go.Proofs.YtcflokckfjkdpaaDoor.Eng
open Go Go.RowKit

/-! ### Arithmetic that omega pays -/
theorem w64 {n : Int} (h : -9223372036854775808 ≤ n) (h' : n ≤ 9223372036854775807) : IntKind.i64.wrap n = n := by
  unfold IntKind.wrap IntKind.bits IntKind.signed
  simp only [Bool.true_and, decide_eq_true_eq]
  split <;> omega
theorem wu64 {n : Int} (h : 0 ≤ n) (h' : n < 18446744073709551616) : IntKind.u64.wrap n = n := by
  unfold IntKind.wrap IntKind.bits IntKind.signed
  simp only [Bool.false_and, Bool.false_eq_true, if_false]
  omega
theorem wu32 {n : Int} (h : 0 ≤ n) (h' : n < 4294967296) : IntKind.u32.wrap n = n := by
  unfold IntKind.wrap IntKind.bits IntKind.signed
  simp only [Bool.false_and, Bool.false_eq_true, if_false]
  omega
theorem wu8 {n : Int} (h : 0 ≤ n) (h' : n < 256) : IntKind.u8.wrap n = n := by
  unfold IntKind.wrap IntKind.bits IntKind.signed
  simp only [Bool.false_and, Bool.false_eq_true, if_false]
  omega
theorem wu64_mod (n : Int) : IntKind.u64.wrap n = n % 18446744073709551616 := by
  unfold IntKind.wrap IntKind.bits IntKind.signed
  simp
theorem wu32_mod (n : Int) : IntKind.u32.wrap n = n % 4294967296 := by
  unfold IntKind.wrap IntKind.bits IntKind.signed
  simp
theorem wu8_mod (n : Int) : IntKind.u8.wrap n = n % 256 := by
  unfold IntKind.wrap IntKind.bits IntKind.signed
  simp
theorem lt_t {a b : Int} (h : a < b) : (a < b) = True := eq_true h
theorem lt_f {a b : Int} (h : b ≤ a) : (a < b) = False := eq_false (by omega)
theorem le_t {a b : Int} (h : a ≤ b) : (a ≤ b) = True := eq_true h
theorem le_f {a b : Int} (h : b < a) : (a ≤ b) = False := eq_false (by omega)
theorem eq_t {a b : Int} (h : a = b) : (a = b) = True := eq_true h
theorem eq_f {a b : Int} (h : a < b ∨ b < a) : (a = b) = False := eq_false (by omega)
theorem nlt_t {a b : Nat} (h : a < b) : (a < b) = True := eq_true h
theorem nlt_f {a b : Nat} (h : b ≤ a) : (a < b) = False := eq_false (by omega)
theorem nle_t {a b : Nat} (h : a ≤ b) : (a ≤ b) = True := eq_true h
theorem nle_f {a b : Nat} (h : b < a) : (a ≤ b) = False := eq_false (by omega)

/-! ### Stores -/
theorem st_scalar {v : Value} (h1 : v.oneCell' = true) (p : Addr) (w : World) (K : World → Prop) : stK 1 p v w K = ((w.cell? p).isSome = true ∧ w.frozen? p = false ∧ K (w.setCell p v)) := by
  unfold stK
  rw [cells_one h1]
  apply propext
  constructor
  · rintro ⟨_, ⟨_, h⟩ | ⟨cs, rfl, _⟩⟩
    · exact h
    · simp [Value.oneCell'] at h1
  · exact fun h => ⟨rfl, .inl ⟨h1, h⟩⟩
theorem st_int (k n p w K) : stK 1 p (.int k n) w K = ((w.cell? p).isSome = true ∧ w.frozen? p = false ∧ K (w.setCell p (.int k n))) := st_scalar rfl p w K
theorem st_bool (b p w K) : stK 1 p (.bool b) w K = ((w.cell? p).isSome = true ∧ w.frozen? p = false ∧ K (w.setCell p (.bool b))) := st_scalar rfl p w K
theorem st_string (b p w K) : stK 1 p (.string b) w K = ((w.cell? p).isSome = true ∧ w.frozen? p = false ∧ K (w.setCell p (.string b))) := st_scalar rfl p w K
theorem st_pointer (b p w K) : stK 1 p (.pointer b) w K = ((w.cell? p).isSome = true ∧ w.frozen? p = false ∧ K (w.setCell p (.pointer b))) := st_scalar rfl p w K
theorem st_slice (a n c p w K) : stK 1 p (.slice a n c) w K = ((w.cell? p).isSome = true ∧ w.frozen? p = false ∧ K (w.setCell p (.slice a n c))) := st_scalar rfl p w K
theorem st_agg (cs : Array Value) (n b o w K) : stK n ⟨b, o, none⟩ (.agg cs) w K = (cs.size = n ∧ (∀ u ∈ cs.toList, u.oneCell' = true) ∧ (∀ j, j < cs.size → (w.cell? ⟨b, o + j, none⟩).isSome = true) ∧ (∀ j, j < cs.size → w.frozen? ⟨b, o + j, none⟩ = false) ∧ K (w.setCells b o cs.toList)) := by
  unfold stK
  apply propext
  constructor
  · rintro ⟨hn, ⟨h, _⟩ | ⟨cs', h, _, h'⟩⟩
    · simp [Value.oneCell'] at h
    · cases h; exact ⟨hn, h'⟩
  · rintro ⟨hn, h⟩; exact ⟨hn, .inr ⟨cs, rfl, rfl, h⟩⟩

/-! ### Blocks -/
def nums (k : IntKind) (l : List Int) : List Value := l.map (Value.int k)
def at' (l : List Int) (i : Int) : Int := l.getD i.toNat 0
theorem nums_length (k : IntKind) (l : List Int) : (nums k l).length = l.length := by simp [nums]
theorem nums_get {k : IntKind} {l : List Int} {j : Nat} (h : j < l.length) : (nums k l)[j]? = some (.int k (l.getD j 0)) := by simp [nums, h, List.getElem?_eq_getElem h]
theorem nums_append (k : IntKind) (l m : List Int) : nums k (l ++ m) = nums k l ++ nums k m := by simp [nums]
theorem nums_set (k : IntKind) (l : List Int) (j : Nat) (x : Int) : (nums k l).set j (.int k x) = nums k (l.set j x) := by simp [nums, List.map_set]
theorem nums_take (k : IntKind) (l : List Int) (j : Nat) : (nums k l).take j = nums k (l.take j) := by simp [nums, List.map_take]
theorem nums_drop (k : IntKind) (l : List Int) (j : Nat) : (nums k l).drop j = nums k (l.drop j) := by simp [nums, List.map_drop]
theorem nums_one (k : IntKind) (l : List Int) : ∀ u ∈ nums k l, u.oneCell' = true := by
  intro u hu; simp only [nums, List.mem_map] at hu; obtain ⟨x, _, rfl⟩ := hu; rfl
theorem nums_replicate (k : IntKind) (n : Nat) (x : Int) : nums k (List.replicate n x) = List.replicate n (.int k x) := by simp [nums]

/-- A block of the call's own: its cells, none frozen. -/
def Blk (w : World) (b : Nat) (cs : List Value) : Prop := ∃ e, w.heap[b]? = some (.cells cs.toArray e (0, 0))
theorem Blk.lt {w : World} {b : Nat} {cs : List Value} (h : Blk w b cs) : b < w.heap.size := by obtain ⟨e, h⟩ := h; exact (Array.getElem?_eq_some_iff.1 h).1
theorem Blk.cell? {w : World} {b : Nat} {cs : List Value} (h : Blk w b cs) (j : Nat) : w.cell? ⟨b, j, none⟩ = cs[j]? := by
  obtain ⟨e, h⟩ := h; simp [World.cell?, h]
theorem Blk.frozen {w : World} {b : Nat} {cs : List Value} (h : Blk w b cs) (j : Nat) : w.frozen? ⟨b, j, none⟩ = false := by
  obtain ⟨e, h⟩ := h; simp [World.frozen?, h]
theorem Blk.isSome {w : World} {b : Nat} {cs : List Value} (h : Blk w b cs) {j : Nat} (hj : j < cs.length) : (w.cell? ⟨b, j, none⟩).isSome = true := by
  rw [h.cell?]; simp [hj]
theorem Blk.num {w : World} {b : Nat} {k : IntKind} {l : List Int} (h : Blk w b (nums k l)) {i : Int} (h0 : 0 ≤ i) (hi : i < l.length) : w.cell? ⟨b, i.toNat, none⟩ = some (.int k (at' l i)) := by
  rw [h.cell?]; exact nums_get (by omega)
theorem Blk.cellsAt {w : World} {b : Nat} {cs : List Value} (h : Blk w b cs) (o : Nat) : Eng.cellsAt w ⟨b, o, none⟩ (cs.drop o) := by
  intro j v hj
  rw [Addr.add_lit, h.cell?]
  rwa [List.getElem?_drop] at hj
theorem Blk.heap {w w' : World} {b : Nat} {cs : List Value} (h : Blk w b cs) (he : w'.heap[b]? = w.heap[b]?) : Blk w' b cs := by
  obtain ⟨e, h⟩ := h; exact ⟨e, he.trans h⟩
theorem Blk.drewN {w : World} {b : Nat} {cs : List Value} (h : Blk w b cs) (n : Nat) : Blk (w.drewN n) b cs := h
theorem Blk.drew {w : World} {b : Nat} {cs : List Value} (h : Blk w b cs) : Blk w.drew b cs := h
theorem Blk.below {B : Nat} {w w' : World} (hb : Below B w w') {b : Nat} {cs : List Value} (h : Blk w b cs) (hB : b < B) : Blk w' b cs := h.heap (hb.block b hB)
theorem Blk.alloc {w : World} {b : Nat} {cs : List Value} (h : Blk w b cs) (o : Obj) : Blk (w.alloc o) b cs := h.heap (Below.heap_alloc w o b h.lt)
theorem Blk.new (w : World) (cs : Array Value) (e : TypeId) : Blk (w.alloc (.cells cs e)) w.heap.size cs.toList := ⟨e, by rw [Array.toArray_toList]; exact heap_alloc_new w _⟩
theorem Blk.new' {w : World} {cs : Array Value} {l : List Value} (h : cs.toList = l) (e : TypeId) : Blk (w.alloc (.cells cs e)) w.heap.size l := h ▸ Blk.new w cs e
theorem Blk.setCell {w : World} {b : Nat} {cs : List Value} (h : Blk w b cs) (j : Nat) (v : Value) : Blk (w.setCell ⟨b, j, none⟩ v) b (cs.set j v) := by
  obtain ⟨e, h⟩ := h
  refine ⟨e, ?_⟩
  rw [heap_setCell_same w b j _ e v h]
  simp
theorem Blk.setOther {w : World} {b : Nat} {cs : List Value} (h : Blk w b cs) {p : Addr} (hp : b ≠ p.block) (v : Value) : Blk (w.setCell p v) b cs := h.heap (heap_setCell_other w p b v hp)
theorem Blk.setCells {b : Nat} : ∀ (vs : List Value) (o : Nat) (w : World) (cs : List Value), Blk w b cs → o + vs.length ≤ cs.length → Blk (w.setCells b o vs) b (cs.take o ++ vs ++ cs.drop (o + vs.length))
  | [], o, w, cs, h, _ => by simpa [World.setCells] using h
  | v :: r, o, w, cs, h, hl => by
    have ih := Blk.setCells r (o + 1) _ _ (h.setCell o v) (by simp at hl ⊢; omega)
    simp only [World.setCells]
    have ho : o < cs.length := by simp at hl; omega
    have e : (cs.set o v).take (o + 1) ++ r ++ (cs.set o v).drop (o + 1 + r.length) = cs.take o ++ (v :: r) ++ cs.drop (o + (v :: r).length) := by
      have h1 : (cs.set o v).take (o + 1) = cs.take o ++ [v] := by
        apply List.ext_getElem?
        intro j
        simp only [List.getElem?_take, List.getElem?_set, List.getElem?_append, List.length_take, List.getElem?_cons, List.getElem?_nil]
        by_cases h1 : j < o
        · rw [if_pos (by omega), if_neg (by omega), if_pos (by omega), if_pos h1]
        · by_cases h2 : j = o
          · subst h2; rw [if_pos (by omega), if_pos rfl, if_pos (by omega), if_neg (by omega), if_pos (by omega)]
          · rw [if_neg (by omega), if_neg (by omega), if_neg (by omega)]
      have h2 : (cs.set o v).drop (o + 1 + r.length) = cs.drop (o + (v :: r).length) := by
        rw [List.drop_set_of_lt (by omega)]
        simp [Nat.add_assoc, Nat.add_comm 1]
      rw [h1, h2]; simp
    rw [e] at ih
    exact ih
theorem setCells_heap (b : Nat) : ∀ (vs : List Value) (o : Nat) (w : World) (k : Nat), k ≠ b → (w.setCells b o vs).heap[k]? = w.heap[k]?
  | [], _, _, _, _ => rfl
  | v :: r, o, w, k, hk => by
    simp only [World.setCells]
    rw [setCells_heap b r (o + 1) _ k hk]
    exact heap_setCell_other w ⟨b, o, none⟩ k v hk
theorem setCells_size (b : Nat) : ∀ (vs : List Value) (o : Nat) (w : World), (w.setCells b o vs).heap.size = w.heap.size
  | [], _, _ => rfl
  | v :: r, o, w => by simp only [World.setCells]; rw [setCells_size b r]; simp [World.setCell]
theorem Blk.setCellsOther {w : World} {b b' : Nat} {cs : List Value} (h : Blk w b cs) (hb : b ≠ b') (o : Nat) (vs : List Value) : Blk (w.setCells b' o vs) b cs := h.heap (setCells_heap b' vs o w b hb)
theorem setCells_below {B b : Nat} (hb : B ≤ b) : ∀ (vs : List Value) (o : Nat) {a w : World}, Below B a w → Below B a (w.setCells b o vs)
  | [], _, _, _, h => h
  | v :: r, o, a, w, h => setCells_below hb r (o + 1) (h.setCell (p := ⟨b, o, none⟩) hb v)

theorem size_setCell (w : World) (a : Addr) (v : Value) : (w.setCell a v).heap.size = w.heap.size := by simp [World.setCell]
theorem size_alloc (w : World) (o : Obj) : (w.alloc o).heap.size = w.heap.size + 1 := by simp
theorem size_drewN (w : World) (n : Nat) : (w.drewN n).heap.size = w.heap.size := rfl
theorem size_drew (w : World) : w.drew.heap.size = w.heap.size := rfl
theorem below_drewN' {B : Nat} {a w : World} (h : Below B a w) (n : Nat) : Below B a (w.drewN n) := h.trans ⟨rfl, rfl, rfl, Nat.le_refl _, fun _ _ => rfl⟩

/-! ### Slices that are read -/
/-- The slice's elements, cell by cell. -/
def Rd (w : World) (A : Option Addr) (vs : List Value) : Prop := vs = [] ∨ ∃ p, A = some p ∧ p.block < w.heap.size ∧ cellsAt w p vs
theorem Rd.nil (w : World) (A : Option Addr) : Rd w A [] := .inl rfl
theorem Rd.get {w : World} {A : Option Addr} {vs : List Value} (h : Rd w A vs) (h0 : 0 < vs.length) : ∃ p, A = some p ∧ p.block < w.heap.size ∧ cellsAt w p vs := by
  rcases h with rfl | h
  · simp at h0
  · exact h
theorem cellsAt.below {w w' : World} {p : Addr} {vs : List Value} (h : cellsAt w p vs) (hp : p.block < w.heap.size) (hb : Below w.heap.size w w') : cellsAt w' p vs := by
  intro j v hj
  rw [hb.cell (p := p.add j) (by unfold Addr.add; split <;> exact hp)]
  exact h j v hj
theorem cellsAt.num {w : World} {p : Addr} {k : IntKind} {l : List Int} (h : cellsAt w p (nums k l)) {i : Int} (h0 : 0 ≤ i) (hi : i < l.length) : w.cell? (p.add i.toNat) = some (.int k (at' l i)) :=
  h _ _ (nums_get (by omega))
theorem Rd.below {w w' : World} {A : Option Addr} {vs : List Value} (h : Rd w A vs) (hb : Below w.heap.size w w') : Rd w' A vs := by
  rcases h with h | ⟨p, e, hp, hc⟩
  · exact .inl h
  · exact .inr ⟨p, e, Nat.lt_of_lt_of_le hp hb.size, hc.below hp hb⟩
theorem Rd.drewN {w : World} {A : Option Addr} {vs : List Value} (h : Rd w A vs) (n : Nat) : Rd (w.drewN n) A vs := h
theorem Blk.rd {w : World} {b : Nat} {cs : List Value} (h : Blk w b cs) (o : Nat) {n : Nat} {vs : List Value} (hv : (cs.drop o).take n = vs) : Rd w (some ⟨b, o, none⟩) vs := by
  refine .inr ⟨_, rfl, h.lt, fun j v hj => ?_⟩
  subst hv
  refine h.cellsAt o j v ?_
  rw [List.getElem?_take] at hj
  split at hj
  · exact hj
  · cases hj
theorem cellsAt.sub {w : World} {p : Addr} {vs : List Value} (h : cellsAt w p vs) (o : Nat) : cellsAt w (p.add o) (vs.drop o) := by
  intro j v hj
  rw [List.getElem?_drop] at hj
  have := h (o + j) v hj
  have e : (p.add o).add j = p.add (o + j) := by
    unfold Addr.add
    by_cases ho : o = 0 <;> by_cases hj : j = 0 <;> simp [ho, hj, Nat.add_assoc]
  rw [e]; exact this
theorem cellsAt.take {w : World} {p : Addr} {vs : List Value} (h : cellsAt w p vs) (n : Nat) : cellsAt w p (vs.take n) := by
  intro j v hj
  rw [List.getElem?_take] at hj
  split at hj
  · exact h j v hj
  · cases hj

end Go.Proofs.YtcflokckfjkdpaaDoor.Eng
