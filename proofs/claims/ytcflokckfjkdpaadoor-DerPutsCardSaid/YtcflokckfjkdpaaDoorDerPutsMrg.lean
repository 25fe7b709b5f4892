/- DerPutsMrg: several texts in one. -/
import Derived.Test.YtcflokckfjkdpaaDoorRow
import Derived.Test.YtcflokckfjkdpaaDoorRefL
import Derived.Test.YtcflokckfjkdpaaDoorEngN
import Derived.Test.YtcflokckfjkdpaaDoorDt8
import Derived.Test.YtcflokckfjkdpaaDoorDt5
import Derived.Test.YtcflokckfjkdpaaDoorDt3
import Derived.Test.YtcflokckfjkdpaaDoorDu2
import Derived.Test.YtcflokckfjkdpaaDoorDerR
import Derived.Test.YtcflokckfjkdpaaDoorCards
import Derived.Test.YtcflokckfjkdpaaDoorTie
import Derived.SevenTiedAt
/- The rows: lists of lists that are read. -/
set_option linter.unusedVariables false
namespace Go.Proofs.YtcflokckfjkdpaaDoor.Row
open Go Go.ChangeShapes Go.WideShapes Go.ChangeAt Go.WideMaps Go.WideElems Go.RowKit Go.Proofs.YtcflokckfjkdpaaDoor.Eng
set_option maxRecDepth 100000
section
variable {H : Type} {enc : TypeId × Value → H} {P : Program}
theorem rd_of_cells {W : World} {a : Addr} {vs : List Value} (h : ∀ i, i < vs.length → W.cell? (a.add i) = vs[i]?) : Rd W (some a) vs := by
  by_cases h0 : vs = []
  · exact .inl h0
  · right
    have hp : 0 < vs.length := List.length_pos_iff.2 h0
    refine ⟨a, rfl, ?_, fun j v hj => ?_⟩
    · have h00 := h 0 hp
      rw [add_zero'] at h00
      rw [List.getElem?_eq_getElem hp] at h00
      unfold World.cell? at h00
      cases hh : W.heap[a.block]? with
      | none => rw [hh] at h00; simp at h00
      | some o => exact (Array.getElem?_eq_some_iff.1 hh).1
    · rw [h j (List.getElem?_eq_some_iff.1 hj).1, hj]
/-- A cell that is a slice of numbers. -/
theorem cell_sl {W : World} {e e1 : TypeId} {k : IntKind} {fuel : Nat} {cs : List Value} {y : DataW H × List MemPlace} (he : P.underlying e = some (.slice e1)) (he1 : P.underlying e1 = some (.int k)) (hc1 : P.cellsOf e1 = 1)
    (h : DataW.trod enc P W 0 (fun _ => true) true fuel e cs = some y) : ∃ (B : Option Addr) (c' : Nat) (p : List Int), cs = [.slice B p.length c'] ∧ p.length ≤ c' ∧ Rd W B (nums k p) ∧ (∀ n ∈ p, (Lit.int k n).wf = true) ∧ p.length ≤ maxLen := by
  rcases open_ints he he1 hc1 h with ⟨rfl, rfl⟩ | ⟨a, len, cap, zs, rfl, _, hl, hm, hz, hx, hcell, hwz⟩
  · exact ⟨none, 0, [], rfl, Nat.le_refl _, .inl rfl, (fun n hn => by cases hn), Nat.zero_le _⟩
  · simp only [if_true] at hz
    have hlen : (zs.take len).length = len := by simp; omega
    refine ⟨some a, cap, zs.take len, by rw [hlen], by omega, rd_of_cells fun i hi => ?_, fun n hn => hwz n (List.mem_of_mem_take hn), by omega⟩
    rw [nums_length, hlen] at hi
    rw [hcell i (by omega), nums_get (by omega)]
    congr 2
    rw [List.getD_eq_getElem?_getD, List.getD_eq_getElem?_getD, List.getElem?_take, if_pos hi]
/-- A slice of slices of numbers that came in. -/
theorem open_llm {W : World} {base : Nat} {t e e1 : TypeId} {k : IntKind} {v : Value} {d : DataW H} {p : List MemPlace} (ht : P.underlying t = some (.slice e)) (hc : P.cellsOf e = 1) (he : P.underlying e = some (.slice e1)) (he1 : P.underlying e1 = some (.int k)) (hc1 : P.cellsOf e1 = 1)
    (hval : Value.okWide P W .any base t v) (h : DataW.Trod enc P W 0 (fun _ => true) true t v d p) :
    ∃ (A : Option Addr) (c : Nat) (l : List (List Int)) (hs : List Value), v = .slice A l.length c ∧ l.length ≤ c ∧ l.length ≤ maxLen ∧ Rd W A hs ∧ hs.length = l.length ∧
      (∀ (i : Nat) (p : List Int) (u : Value), l[i]? = some p → hs[i]? = some u → ∃ (B : Option Addr) (c' : Nat), u = .slice B p.length c' ∧ p.length ≤ c' ∧ Rd W B (nums k p)) ∧ (∀ p ∈ l, (∀ n ∈ p, (Lit.int k n).wf = true) ∧ p.length ≤ maxLen) := by
  obtain ⟨a1, len, cap, rfl⟩ := okWide_slice ht hval
  obtain ⟨fuel, hf⟩ := h
  rcases DataW.trod_slice ht hf with ⟨hcs, hx⟩ | ⟨a, len', cap', elems, rest, n, _, hcs, hx, _, hl, hm, hlen, hel, _, _⟩
  · simp [Value.cells] at hcs
    obtain ⟨rfl, rfl, rfl⟩ := hcs
    exact ⟨none, 0, [], [], rfl, Nat.le_refl _, Nat.zero_le _, .inl rfl, rfl, fun i p u h => by simp at h, fun p hp => by cases hp⟩
  · simp [Value.cells] at hcs
    obtain ⟨rfl, rfl, rfl⟩ := hcs
    have each : ∀ i, i < len → ∃ q : List Int × Value, W.cell? (a.add i) = some q.2 ∧ (∃ (B : Option Addr) (c' : Nat), q.2 = .slice B q.1.length c' ∧ q.1.length ≤ c' ∧ Rd W B (nums k q.1)) ∧ (∀ n ∈ q.1, (Lit.int k n).wf = true) ∧ q.1.length ≤ maxLen := by
      intro i hi
      have h1 := hel i hi
      rw [List.getElem?_eq_getElem (by omega), hc, Nat.mul_one, Option.bind_eq_some_iff] at h1
      obtain ⟨cs', hcs', hy⟩ := h1
      obtain ⟨B, c', p, rfl, h2, h3, h4⟩ := cell_sl he he1 hc1 hy
      exact ⟨(p, _), cell_of_cells?_one hcs', ⟨B, c', rfl, h2, h3⟩, h4⟩
    have pick : ∃ f : Nat → List Int × Value, ∀ i, i < len → W.cell? (a.add i) = some (f i).2 ∧ (∃ (B : Option Addr) (c' : Nat), (f i).2 = .slice B (f i).1.length c' ∧ (f i).1.length ≤ c' ∧ Rd W B (nums k (f i).1)) ∧ (∀ n ∈ (f i).1, (Lit.int k n).wf = true) ∧ (f i).1.length ≤ maxLen :=
      ⟨fun i => if h : i < len then Classical.choose (each i h) else ([], .bool true), fun i hi => by simp only [dif_pos hi]; exact Classical.choose_spec (each i hi)⟩
    obtain ⟨f, hfi⟩ := pick
    refine ⟨some a, cap, (List.range len).map fun i => (f i).1, (List.range len).map fun i => (f i).2, by simp, by simpa using hl, by simp; omega, ?_, by simp, fun i p u h1 h2 => ?_, fun p hp => ?_⟩
    · refine rd_of_cells fun i hi => ?_
      simp at hi
      rw [(hfi i hi).1]
      simp [hi]
    · have hi : i < len := by
        have := (List.getElem?_eq_some_iff.1 h1).1
        simpa using this
      simp [hi] at h1 h2
      subst h1; subst h2
      exact (hfi i hi).2.1
    · obtain ⟨i, hi, rfl⟩ := List.mem_map.1 hp
      exact (hfi i (List.mem_range.1 hi)).2.2
theorem open_ll {W : World} {base : Nat} {t e e1 : TypeId} {k : IntKind} {v : Value} {d : DataW H} {p : List MemPlace} (ht : P.underlying t = some (.slice e)) (hc : P.cellsOf e = 1) (he : P.underlying e = some (.slice e1)) (he1 : P.underlying e1 = some (.int k)) (hc1 : P.cellsOf e1 = 1)
    (hval : Value.okWide P W .any base t v) (h : DataW.Trod enc P W 0 (fun _ => true) true t v d p) :
    ∃ (A : Option Addr) (c : Nat) (l : List (List Int)) (hs : List Value), v = .slice A l.length c ∧ l.length ≤ c ∧ l.length ≤ maxLen ∧ Rd W A hs ∧ hs.length = l.length ∧
      (∀ (i : Nat) (p : List Int) (u : Value), l[i]? = some p → hs[i]? = some u → ∃ (B : Option Addr) (c' : Nat), u = .slice B p.length c' ∧ p.length ≤ c' ∧ Rd W B (nums k p)) ∧ (∀ p ∈ l, ∀ n ∈ p, (Lit.int k n).wf = true) := by
  obtain ⟨A, c, l, hs, h1, h2, h3, h4, h5, h6, h7⟩ := open_llm ht hc he he1 hc1 hval h
  exact ⟨A, c, l, hs, h1, h2, h3, h4, h5, h6, fun p hp => (h7 p hp).1⟩
end
end Go.Proofs.YtcflokckfjkdpaaDoor.Row

/- Lists of bytes that are lent, all of them: each in a block of its own. -/
set_option linter.unusedVariables false
set_option linter.unusedSimpArgs false
namespace Go.Proofs.YtcflokckfjkdpaaDoor.Spec
open Go Go.RowKit Go.Proofs Go.Proofs.YtcflokckfjkdpaaDoor.Eng Go.Proofs.YtcflokckfjkdpaaDoor.Code
set_option maxRecDepth 100000
theorem Lnt.nb {k : IntKind} {w0 w w' : World} {v : Value} {l : List Int} {x y : Int} (h : Lnt k w0 w v l x y) (f : Fr w w' nob) : Lnt k w0 w' v l x y := h.fr f fun _ _ x => x
theorem Lnt.from {k : IntKind} {w0 w1 w : World} {v : Value} {l : List Int} {x y : Int} (h : Lnt k w1 w v l x y) (f : w0.heap.size ≤ w1.heap.size) : Lnt k w0 w v l x y := by
  obtain ⟨b, pad, rfl, hB, hb⟩ := h.ex
  exact ⟨b, pad, rfl, hB, by omega⟩
/-- Lists that are lent, each in a block of its own, apart from the block of the row of them. -/
structure Lnts (w0 w : World) (X : Value) (l : List (List Int)) (vs : List Value) : Prop where
  g : Gg 1 w0 w X vs.length vs
  len : vs.length = l.length
  each : ∀ (i : Nat) (p : List Int) (v : Value), l[i]? = some p → vs[i]? = some v → Lnt .u8 w0 w v p 90 165
  sep : ∀ (i : Nat) (v : Value) (b : Nat), vs[i]? = some v → blkOf v = some b → blkOf X ≠ some b ∧ b < w.heap.size
theorem Lnts.nil (w : World) : Lnts w w (.slice none 0 0) [] [] :=
  ⟨Gg.nil 1 w, rfl, fun i p v h => by simp at h, fun i v b h => by simp at h⟩
theorem Lnts.nb {w0 w w' : World} {X : Value} {l : List (List Int)} {vs : List Value} (h : Lnts w0 w X l vs) (f : Fr w w' nob) : Lnts w0 w' X l vs :=
  ⟨h.g.step f, h.len, fun i p v h1 h2 => (h.each i p v h1 h2).fr f fun _ _ x => x, fun i v b h1 h2 => ⟨(h.sep i v b h1 h2).1, Nat.lt_of_lt_of_le (h.sep i v b h1 h2).2 f.size⟩⟩
/-- One more. -/
theorem Lnts.add {w0 w w' : World} {X X' v : Value} {l : List (List Int)} {p : List Int} {vs : List Value} (h : Lnts w0 w X l vs) (hv : Lnt .u8 w0 w v p 90 165) (hs : ∀ b, blkOf v = some b → blkOf X ≠ some b) (a : Ag 1 w X (vs.length + 1) (vs ++ [v]) X' w') : Lnts w0 w' X' (l ++ [p]) (vs ++ [v]) := by
  have hvl : ∀ b, blkOf v = some b → b < w.heap.size := fun b e => by
    obtain ⟨b', pad, rfl, hB, _⟩ := hv.ex
    cases e; exact hB.lt
  have hX : ∀ b, b < w.heap.size → blkOf X ≠ some b → blkOf X' ≠ some b := fun b hb hn e => by
    rcases a.where_ with h | h
    · exact hn (h ▸ e)
    · have := h b e; omega
  refine ⟨?_, by simp [h.len], fun i q u h1 h2 => ?_, fun i u b h1 h2 => ?_⟩
  · rw [List.length_append]; exact h.g.apd a
  · by_cases hi : i < l.length
    · rw [List.getElem?_append_left hi] at h1
      rw [List.getElem?_append_left (by rw [h.len]; exact hi)] at h2
      exact (h.each i q u h1 h2).fr a.fr fun b e => (h.sep i u b h2 e).1
    · have hi' : i = l.length := by
        have := (List.getElem?_eq_some_iff.1 h1).1
        simp at this; omega
      subst hi'
      rw [List.getElem?_append_right (Nat.le_refl _)] at h1
      rw [List.getElem?_append_right (by rw [h.len]; exact Nat.le_refl _), h.len] at h2
      simp at h1 h2
      subst h1; subst h2
      exact hv.fr a.fr fun b e => hs b e
  · have hsz := a.fr.size
    by_cases hi : i < vs.length
    · rw [List.getElem?_append_left hi] at h1
      have := h.sep i u b h1 h2
      exact ⟨hX b this.2 this.1, by omega⟩
    · rw [List.getElem?_append_right (by omega)] at h1
      have h1' : u = v := by
        have := List.mem_of_getElem? h1
        simpa using this
      subst h1'
      have := hvl b h2
      exact ⟨hX b this (hs b h2), by omega⟩

end Go.Proofs.YtcflokckfjkdpaaDoor.Spec

/- Elements that are laid, walked. -/
set_option linter.unusedVariables false
set_option linter.unusedSimpArgs false
namespace Go.Proofs.YtcflokckfjkdpaaDoor.Der
open Go Go.RowKit Go.Proofs Go.Proofs.YtcflokckfjkdpaaDoor.Eng Go.Proofs.YtcflokckfjkdpaaDoor.Code
set_option maxRecDepth 100000
attribute [local irreducible] callK S.W opsW scrW scrT

/-- Rows of bytes that are read. -/
structure LV (w : World) (X : Value) (ls : List (List Int)) : Prop where
  ex : ∃ A c vs, X = .slice A ls.length c ∧ ls.length ≤ c ∧ Rd w A vs ∧ vs.length = ls.length ∧ ∀ (i : Nat) v l, vs[i]? = some v → ls[i]? = some l → Vw .u8 w v l
theorem LV.nb {w w' : World} {X : Value} {ls : List (List Int)} (h : LV w X ls) (f : Fr w w' nob) : LV w' X ls := by
  obtain ⟨A, c, vs, e, hc, hr, hv, he⟩ := h.ex
  refine ⟨A, c, vs, e, hc, hr.nb f, hv, fun i v l h1 h2 => ?_⟩
  obtain ⟨B, d, e2, hd, hB⟩ := he i v l h1 h2
  exact ⟨B, d, e2, hd, hB.nb f⟩
theorem LV.at {w : World} {A : Option Addr} {n c : Nat} {ls : List (List Int)} (h : LV w (.slice A n c) ls) {i : Nat} (hi : i < ls.length) : ∃ ad dA dc, A = some ad ∧ n = ls.length ∧ w.cell? (ad.add i) = some (.slice dA ls[i].length dc) ∧ ls[i].length ≤ dc ∧ Rd w dA (nums .u8 ls[i]) := by
  obtain ⟨A', c', vs, e, hc, hr, hv, he⟩ := h.ex
  cases e
  have hiv : i < vs.length := by omega
  obtain ⟨ad, ea, hcell⟩ := hr.at (List.getElem?_eq_getElem hiv)
  obtain ⟨dA, dc, e2, hdc, hdr⟩ := he i vs[i] ls[i] (List.getElem?_eq_getElem hiv) (List.getElem?_eq_getElem hi)
  rw [e2] at hcell
  exact ⟨ad, dA, dc, ea, rfl, hcell, hdc, hdr⟩
def tot (ls : List (List Int)) (j : Nat) : Nat := ((ls.take j).map List.length).sum
theorem take_one {α : Type} {ls : List α} {j : Nat} (h : j < ls.length) : ls.take (j + 1) = ls.take j ++ [ls[j]] := by
  rw [List.take_add_one, List.getElem?_eq_getElem h]; rfl
theorem sum_app (a b : List Nat) : (a ++ b).sum = a.sum + b.sum := by
  induction a with
  | nil => simp
  | cons x r ih => simp only [List.cons_append, List.sum_cons, ih]; omega
theorem tot_succ {ls : List (List Int)} {j : Nat} (h : j < ls.length) : tot ls (j + 1) = tot ls j + ls[j].length := by
  unfold tot
  rw [take_one h, List.map_append, sum_app]
  simp only [List.map_cons, List.map_nil, List.sum_cons, List.sum_nil, Nat.add_zero]
theorem tot_all (ls : List (List Int)) : tot ls ls.length = (ls.map List.length).sum := by simp [tot]
theorem tot_le (ls : List (List Int)) (j : Nat) : tot ls j ≤ (ls.map List.length).sum := by
  have : (ls.map List.length).sum = tot ls j + ((ls.drop j).map List.length).sum := by
    unfold tot
    rw [← sum_app, ← List.map_append, List.take_append_drop]
  omega
theorem flat_succ {ls : List (List Int)} {j : Nat} (h : j < ls.length) : (ls.take (j + 1)).flatten = (ls.take j).flatten ++ ls[j] := by
  rw [take_one h, List.flatten_append]; simp only [List.flatten_cons, List.flatten_nil, List.append_nil]
theorem flat_len (ls : List (List Int)) (j : Nat) : (ls.take j).flatten.length = tot ls j := by
  unfold tot; simp [List.length_flatten]
theorem or_hi : ∀ a : Nat, a < 8 → ∀ t : Nat, t < 32 → bits .or .u8 ((a * 32 : Nat) : Int) (t : Int) = ((a * 32 + t : Nat) : Int) := by decide +kernel
theorem first_or {a t : Int} (h0 : 0 ≤ a) (h1 : a < 256) (h2 : a % 32 = 0) (h3 : 0 ≤ t) (h4 : t < 32) : bits .or .u8 a t = a + t := by
  obtain ⟨a, rfl⟩ := Int.eq_ofNat_of_zero_le h0
  obtain ⟨t, rfl⟩ := Int.eq_ofNat_of_zero_le h3
  have := or_hi (a / 32) (by omega) t (by omega)
  rw [show a / 32 * 32 = a by omega] at this
  rw [this]; omega
theorem or_32n : ∀ a : Nat, a < 4 → bits .or .u8 ((a * 64 : Nat) : Int) 32 = ((a * 64 + 32 : Nat) : Int) := by decide +kernel
theorem cls_or {a : Int} (h0 : 0 ≤ a) (h1 : a ≤ 3) : bits .or .u8 (a * 64) 32 = a * 64 + 32 := by
  obtain ⟨a, rfl⟩ := Int.eq_ofNat_of_zero_le h0
  have := or_32n a (by omega)
  rw [show ((a : Int) * 64) = ((a * 64 : Nat) : Int) by omega, this]; omega
def firstR (cls : Int) (cons : Bool) : Int := cls * 64 + (if cons then 32 else 0)
theorem firstR_bd {cls : Int} {cons : Bool} (h0 : 0 ≤ cls) (h1 : cls ≤ 3) : 0 ≤ firstR cls cons ∧ firstR cls cons < 256 ∧ firstR cls cons % 32 = 0 := by
  unfold firstR
  cases cons <;> simp <;> omega
def headA (first tag : Int) : List Int := if tag < 31 then [first + tag] else (first + 31) :: sevenR tag.toNat
theorem headR_eq (cls tag : Int) (cons : Bool) (n : Nat) : headR cls tag cons n = headA (firstR cls cons) tag ++ lenBytes n := rfl
theorem headA_len (first tag : Int) : (headA first tag).length ≤ 12 := by
  unfold headA
  split
  · simp
  · have := seven_len tag.toNat
    simp; omega
theorem be_len : ∀ f n, (bytesBE f n).length ≤ f
  | 0, n => by simp [bytesBE]
  | f + 1, n => by
    rw [bytesBE]
    split
    · simp
    · have := be_len f (n / 256)
      simp; omega
theorem lenB_len (n : Nat) : (lenBytes n).length ≤ 5 := by
  unfold lenBytes
  split
  · simp
  · have := be_len 4 n
    simp; omega
theorem new_cap {w w' : World} {c : Nat} (n : New w w' (nums .u8 (List.replicate c 0))) : Gw .u8 w w' (.slice (some ⟨w.heap.size, 0, none⟩) 0 c) [] :=
  ⟨.inr ⟨w.heap.size, List.replicate c 0, by simp, by simpa using n.blk⟩, fun b e => by cases e; exact Nat.le_refl _, n.fr nob⟩
theorem strip_be {n : Nat} (h : n < 4294967296) : stripZ [((n / 16777216 % 256 : Nat) : Int), ((n / 65536 % 256 : Nat) : Int), ((n / 256 % 256 : Nat) : Int), ((n % 256 : Nat) : Int)] = bytesBE 4 n := by
  simp only [bytesBE, stripZ]
  by_cases h0 : n = 0
  · subst h0; rfl
  by_cases h1 : n / 256 = 0
  · have e1 : n / 16777216 % 256 = 0 := by omega
    have e2 : n / 65536 % 256 = 0 := by omega
    have e3 : n / 256 % 256 = 0 := by omega
    have e4 : n % 256 ≠ 0 := by omega
    simp [e1, e2, e3, e4, h0, h1]
    omega
  by_cases h2 : n / 256 / 256 = 0
  · have e1 : n / 16777216 % 256 = 0 := by omega
    have e2 : n / 65536 % 256 = 0 := by omega
    have e3 : n / 256 % 256 ≠ 0 := by omega
    rw [if_pos (by omega), if_pos (by omega), if_neg (by omega), if_neg h0, if_neg h1, if_pos h2]
    simp
  by_cases h3 : n / 256 / 256 / 256 = 0
  · have e1 : n / 16777216 % 256 = 0 := by omega
    have e2 : n / 65536 % 256 ≠ 0 := by omega
    rw [if_pos (by omega), if_neg (by omega), if_neg h0, if_neg h1, if_neg h2, if_pos h3]
    simp [Nat.div_div_eq_div_mul]
  · rw [if_neg (by omega), if_neg h0, if_neg h1, if_neg h2, if_neg h3]
    simp [Nat.div_div_eq_div_mul]
theorem trimb_all {w : World} {A : Option Addr} {c : Nat} {l : List Int} (hc : l.length ≤ c) (hr : Rd w A (nums .u8 l)) (h63 : l.length ≤ 9223372036854775807) (K : Value → World → Prop)
    (hK : ∀ A' c', (stripZ l).length ≤ c' → (∀ w2, Rd w2 A (nums .u8 l) → Rd w2 A' (nums .u8 (stripZ l))) → K (.slice A' (stripZ l).length c') w) : callK Tryd.prog 68 [.slice A l.length c, .int .u8 0] w K := by
  refine call_of Tryd.func68 Code.h68 (by simp [Code.c68]) ?_
  simp (disch := omega) only [wu64, wu32, wu8, fdiv_nn, EO, ↓EP, EQ, EM, ↓reduceIte, Int.reduceAdd, Int.reduceEq, Int.reduceLE, Int.reduceLT, Int.reduceMul, Int.reduceNeg, Int.reducePow, Int.reduceSub, Int.reduceToNat, Nat.reduceAdd, Nat.reduceEqDiff, Nat.reduceLT, Nat.reduceLeDiff, Nat.reduceMul, reduceCtorEq, Code.c68]
  refine loop_inv (fun t ρ w' => w' = w ∧ ∃ (A' : Option Addr) (c' : Nat) (l' : List Int), ρ 0 = .slice A' l'.length c' ∧ ρ 1 = .int .u8 0 ∧ l'.length ≤ c' ∧ l'.length ≤ l.length ∧ t = l'.length ∧ (∀ w2, Rd w2 A (nums .u8 l) → Rd w2 A' (nums .u8 l')) ∧ stripZ l' = stripZ l) _ ⟨rfl, A, c, l, by simp (disch := omega) only [wu64, wu32, wu8, fdiv_nn, EO, ↓EP, EQ, EM, ↓reduceIte, Int.reduceAdd, Int.reduceEq, Int.reduceLE, Int.reduceLT, Int.reduceMul, Int.reduceNeg, Int.reducePow, Int.reduceSub, Int.reduceToNat, Nat.reduceAdd, Nat.reduceEqDiff, Nat.reduceLT, Nat.reduceLeDiff, Nat.reduceMul, reduceCtorEq], by simp (disch := omega) only [wu64, wu32, wu8, fdiv_nn, EO, ↓EP, EQ, EM, ↓reduceIte, Int.reduceAdd, Int.reduceEq, Int.reduceLE, Int.reduceLT, Int.reduceMul, Int.reduceNeg, Int.reducePow, Int.reduceSub, Int.reduceToNat, Nat.reduceAdd, Nat.reduceEqDiff, Nat.reduceLT, Nat.reduceLeDiff, Nat.reduceMul, reduceCtorEq], hc, Nat.le_refl _, rfl, fun _ h => h, rfl⟩ ?_
  rintro t ρ w' hf ⟨rfl, A', c', l', h0, h1, hc', hll, rfl, hall, hs⟩ N hN
  have hr' := hall w' hr
  clear hf
  by_cases hl : l'.length = 0
  · have : l' = [] := List.length_eq_zero_iff.1 hl
    subst this
    simp (disch := omega) only [wu64, wu32, wu8, fdiv_nn, EO, ↓EP, EQ, EM, ↓reduceIte, Int.reduceAdd, Int.reduceEq, Int.reduceLE, Int.reduceLT, Int.reduceMul, Int.reduceNeg, Int.reducePow, Int.reduceSub, Int.reduceToNat, Nat.reduceAdd, Nat.reduceEqDiff, Nat.reduceLT, Nat.reduceLeDiff, Nat.reduceMul, reduceCtorEq, h0, h1, List.length_nil, Int.natCast_zero]
    rw [← hs] at hK
    exact hK none 0 (Nat.le_refl _) fun _ _ => .inl rfl
  · obtain ⟨ad, rfl, cell⟩ := pos_cells hr' (by omega)
    have c0 := cell 0 (by omega)
    rw [show ((0 : Nat) : Int) = 0 by rfl] at c0
    have hd := drop_at (show 0 < l'.length by omega)
    rw [List.drop_zero, show ((0 : Nat) : Int) = 0 by rfl] at hd
    by_cases hz : at' l' 0 = 0
    · simp (disch := omega) only [wu64, wu32, wu8, fdiv_nn, EO, ↓EP, EQ, EM, ↓reduceIte, Int.reduceAdd, Int.reduceEq, Int.reduceLE, Int.reduceLT, Int.reduceMul, Int.reduceNeg, Int.reducePow, Int.reduceSub, Int.reduceToNat, Nat.reduceAdd, Nat.reduceEqDiff, Nat.reduceLT, Nat.reduceLeDiff, Nat.reduceMul, reduceCtorEq, h0, h1, c0, hz]
      refine hN (l'.length - 1) _ _ (by omega) ⟨rfl, subA (some ad) c' 1 1, c' - 1, l'.drop 1, by simp (disch := omega) only [wu64, wu32, wu8, fdiv_nn, EO, ↓EP, EQ, EM, ↓reduceIte, Int.reduceAdd, Int.reduceEq, Int.reduceLE, Int.reduceLT, Int.reduceMul, Int.reduceNeg, Int.reducePow, Int.reduceSub, Int.reduceToNat, Nat.reduceAdd, Nat.reduceEqDiff, Nat.reduceLT, Nat.reduceLeDiff, Nat.reduceMul, reduceCtorEq, h0, List.length_drop], by simp (disch := omega) only [wu64, wu32, wu8, fdiv_nn, EO, ↓EP, EQ, EM, ↓reduceIte, Int.reduceAdd, Int.reduceEq, Int.reduceLE, Int.reduceLT, Int.reduceMul, Int.reduceNeg, Int.reducePow, Int.reduceSub, Int.reduceToNat, Nat.reduceAdd, Nat.reduceEqDiff, Nat.reduceLT, Nat.reduceLeDiff, Nat.reduceMul, reduceCtorEq, h1], by simp; omega, by simp; omega, by simp, fun w2 h2 => (hall w2 h2).subA c' 1 hc', ?_⟩
      rw [← hs, hd, stripZ, if_pos hz]; rfl
    · have hzf : (at' l' 0 = 0) = False := eq_false hz
      simp (disch := omega) only [wu64, wu32, wu8, fdiv_nn, EO, ↓EP, EQ, EM, ↓reduceIte, Int.reduceAdd, Int.reduceEq, Int.reduceLE, Int.reduceLT, Int.reduceMul, Int.reduceNeg, Int.reducePow, Int.reduceSub, Int.reduceToNat, Nat.reduceAdd, Nat.reduceEqDiff, Nat.reduceLT, Nat.reduceLeDiff, Nat.reduceMul, reduceCtorEq, h0, h1, c0, hzf]
      rw [← hs, hd, stripZ, if_neg hz, ← hd] at hK
      exact hK _ _ hc' hall
theorem trim_n {w : World} {A : Option Addr} {c : Nat} {l q : List Int} (hc : l.length ≤ c) (hr : Rd w A (nums .u8 l)) (h0 : 0 < l.length) (h63 : l.length ≤ 9223372036854775807) (hq : stripZ l = q) (K : Value → World → Prop)
    (hK : ∀ A' c', q.length ≤ c' → (∀ w2, Rd w2 A (nums .u8 l) → Rd w2 A' (nums .u8 q)) → K (.slice A' q.length c') w) : callK Tryd.prog 56 [.slice A l.length c, .string ⟨#[0]⟩] w K := by
  subst hq
  refine call_of Tryd.func56 Code.h56 (by simp [Code.c56]) ?_
  simp (disch := omega) only [wu64, wu32, wu8, fdiv_nn, EO, ↓EP, EQ, EM, ↓reduceIte, Int.reduceAdd, Int.reduceEq, Int.reduceLE, Int.reduceLT, Int.reduceMul, Int.reduceNeg, Int.reducePow, Int.reduceSub, Int.reduceToNat, Nat.reduceAdd, Nat.reduceEqDiff, Nat.reduceLT, Nat.reduceLeDiff, Nat.reduceMul, reduceCtorEq, Code.c56, eq_z0, sz_z, Int.natCast_one, ix_z]
  refine trimb_all hc hr h63 _ fun A' c' hc' hall => ?_
  simp (disch := omega) only [wu64, wu32, wu8, fdiv_nn, EO, ↓EP, EQ, EM, ↓reduceIte, Int.reduceAdd, Int.reduceEq, Int.reduceLE, Int.reduceLT, Int.reduceMul, Int.reduceNeg, Int.reducePow, Int.reduceSub, Int.reduceToNat, Nat.reduceAdd, Nat.reduceEqDiff, Nat.reduceLT, Nat.reduceLeDiff, Nat.reduceMul, reduceCtorEq]
  exact hK A' c' hc' hall
end Go.Proofs.YtcflokckfjkdpaaDoor.Der

/- The document's tags and lengths, walked. -/
set_option linter.unusedVariables false
set_option linter.unusedSimpArgs false
namespace Go.Proofs.YtcflokckfjkdpaaDoor.Der
open Go Go.RowKit Go.Proofs Go.Proofs.YtcflokckfjkdpaaDoor.Eng Go.Proofs.YtcflokckfjkdpaaDoor.Code
set_option maxRecDepth 100000
attribute [local irreducible] callK S.W opsW scrW scrT

set_option maxHeartbeats 1000000 in
theorem rtag_vw {w : World} {v : Value} {b : List Int} {p : Nat} (hv : Vw .u8 w v b) (hb : ByteL b) (hp : p < b.length) (hm : b.length ≤ 16777216) (K : Value → World → Prop)
    (hK : K (tup4 (tagR b p)) w) : callK Tryd.prog 54 [v, .int .i64 p] w K := by
  obtain ⟨A, c, rfl, hc, hr⟩ := hv
  refine call_of Tryd.func54 Code.h54 (by simp [Code.c54]) ?_
  obtain ⟨ad, rfl, _, hcl⟩ := hr.get (by rw [nums_length]; omega)
  have cell : ∀ i : Nat, i < b.length → w.cell? (ad.add i) = some (.int .u8 (at' b (i : Int))) := fun i hi => hcl.numN hi
  have c0 := cell p hp
  have b0 := hb p
  have e31 : True := trivial
  unfold tagR at hK
  by_cases h31 : at' b (p : Int) % 32 = 31
  · rw [if_pos h31] at hK
    simp (disch := omega) only [wu64, wu32, wu8, fdiv_nn, EO, ↓EP, EQ, EM, ↓reduceIte, Int.reduceAdd, Int.reduceEq, Int.reduceLE, Int.reduceLT, Int.reduceMul, Int.reduceNeg, Int.reducePow, Int.reduceSub, Int.reduceToNat, Nat.reduceAdd, Nat.reduceEqDiff, Nat.reduceLT, Nat.reduceLeDiff, Nat.reduceMul, reduceCtorEq, Code.c54, c0, h31]
    refine loop_inv (fun t ρ w' => w' = w ∧ ∃ (i : Nat) (n : Int), ρ 9 = .int .i64 i ∧ ρ 8 = .int .i64 n ∧ p + 1 ≤ i ∧ i ≤ b.length ∧ t = b.length - i ∧ 0 ≤ n ∧ n ≤ 268435455 ∧ (i = p + 1 → n = 0) ∧ tagGo (b.drop i) (decide (i = p + 1)) n i = tagGo (b.drop (p + 1)) true 0 (p + 1)) _ ⟨rfl, p + 1, 0, by simp (disch := omega) only [wu64, wu32, wu8, fdiv_nn, EO, ↓EP, EQ, EM, ↓reduceIte, Int.reduceAdd, Int.reduceEq, Int.reduceLE, Int.reduceLT, Int.reduceMul, Int.reduceNeg, Int.reducePow, Int.reduceSub, Int.reduceToNat, Nat.reduceAdd, Nat.reduceEqDiff, Nat.reduceLT, Nat.reduceLeDiff, Nat.reduceMul, reduceCtorEq, Int.natCast_add], by simp (disch := omega) only [wu64, wu32, wu8, fdiv_nn, EO, ↓EP, EQ, EM, ↓reduceIte, Int.reduceAdd, Int.reduceEq, Int.reduceLE, Int.reduceLT, Int.reduceMul, Int.reduceNeg, Int.reducePow, Int.reduceSub, Int.reduceToNat, Nat.reduceAdd, Nat.reduceEqDiff, Nat.reduceLT, Nat.reduceLeDiff, Nat.reduceMul, reduceCtorEq], by omega, by omega, rfl, by omega, by omega, fun _ => rfl, by rw [decide_eq_true rfl]⟩ ?_
    rintro t ρ w' hf ⟨rfl, i, n, h5, h4, hi, hi', rfl, hn, hn', hz0, hgo⟩ N hN
    have r0 : ρ 0 = .slice (some ad) b.length c := by rw [hf 0 rfl]; simp (disch := omega) only [wu64, wu32, wu8, fdiv_nn, EO, ↓EP, EQ, EM, ↓reduceIte, Int.reduceAdd, Int.reduceEq, Int.reduceLE, Int.reduceLT, Int.reduceMul, Int.reduceNeg, Int.reducePow, Int.reduceSub, Int.reduceToNat, Nat.reduceAdd, Nat.reduceEqDiff, Nat.reduceLT, Nat.reduceLeDiff, Nat.reduceMul, reduceCtorEq]
    have r1 : ρ 1 = .int .i64 p := by rw [hf 1 rfl]; simp (disch := omega) only [wu64, wu32, wu8, fdiv_nn, EO, ↓EP, EQ, EM, ↓reduceIte, Int.reduceAdd, Int.reduceEq, Int.reduceLE, Int.reduceLT, Int.reduceMul, Int.reduceNeg, Int.reducePow, Int.reduceSub, Int.reduceToNat, Nat.reduceAdd, Nat.reduceEqDiff, Nat.reduceLT, Nat.reduceLeDiff, Nat.reduceMul, reduceCtorEq]
    clear hf
    rw [← hgo] at hK
    by_cases hil : (i : Int) < (b.length : Int)
    · have ci := cell i (by omega)
      have bi := hb i
      have e127 : True := trivial
      rw [drop_at (show i < b.length by omega), tagGo] at hK
      have hnx : tagGo (b.drop (i + 1)) (decide (i + 1 = p + 1)) (n * 128 + at' b (i : Int) % 128) (i + 1) = tagGo (b.drop (i + 1)) false (n * 128 + at' b (i : Int) % 128) (i + 1) := by
        rw [decide_eq_false (show ¬ i + 1 = p + 1 by omega)]
      have hgo' : ¬ ((decide (i = p + 1) = true ∧ at' b (i : Int) = 128) ∨ 268435455 < n * 128 + at' b (i : Int) % 128 ∨ (at' b (i : Int) < 128 ∧ n * 128 + at' b (i : Int) % 128 < 31)) → ¬ at' b (i : Int) < 128 → tagGo (b.drop (i + 1)) (decide (i + 1 = p + 1)) (n * 128 + at' b (i : Int) % 128) (i + 1) = tagGo (b.drop (p + 1)) true 0 (p + 1) := fun h1 h2 => by
        rw [hnx, ← hgo, drop_at (show i < b.length by omega), tagGo, if_neg h1, if_neg h2]
      have hor : True := trivial
      have hip : ((i : Int) = (p : Int) + 1) = (i = p + 1) := propext ⟨fun h => by omega, fun h => by omega⟩
      by_cases hA : i = p + 1
      · have hn0 := hz0 hA
        by_cases hB : at' b (i : Int) = 128
        · rw [if_pos (.inl ⟨decide_eq_true hA, hB⟩)] at hK
          simp (disch := omega) only [wu64, wu32, wu8, fdiv_nn, EO, ↓EP, EQ, EM, ↓reduceIte, Int.reduceAdd, Int.reduceEq, Int.reduceLE, Int.reduceLT, Int.reduceMul, Int.reduceNeg, Int.reducePow, Int.reduceSub, Int.reduceToNat, Nat.reduceAdd, Nat.reduceEqDiff, Nat.reduceLT, Nat.reduceLeDiff, Nat.reduceMul, reduceCtorEq, W_join, h4, h5, r0, r1, ci]
          exact hK
        · clear hgo hnx
          by_cases hC : 268435455 < n * 128 + at' b (i : Int) % 128
          · exfalso; omega
          · by_cases hD : at' b (i : Int) < 128
            · by_cases hE : n * 128 + at' b (i : Int) % 128 < 31
              · rw [if_pos (.inr (.inr ⟨hD, hE⟩))] at hK
                simp (disch := omega) only [wu64, wu32, wu8, fdiv_nn, EO, ↓EP, EQ, EM, ↓reduceIte, Int.reduceAdd, Int.reduceEq, Int.reduceLE, Int.reduceLT, Int.reduceMul, Int.reduceNeg, Int.reducePow, Int.reduceSub, Int.reduceToNat, Nat.reduceAdd, Nat.reduceEqDiff, Nat.reduceLT, Nat.reduceLeDiff, Nat.reduceMul, reduceCtorEq, W_join, h4, h5, r0, r1, ci]
                exact hK
              · rw [if_neg (fun h => by rcases h with h | h | h; exact hB h.2; exact hC h; exact hE h.2), if_pos hD] at hK
                simp (disch := omega) only [wu64, wu32, wu8, fdiv_nn, EO, ↓EP, EQ, EM, ↓reduceIte, Int.reduceAdd, Int.reduceEq, Int.reduceLE, Int.reduceLT, Int.reduceMul, Int.reduceNeg, Int.reducePow, Int.reduceSub, Int.reduceToNat, Nat.reduceAdd, Nat.reduceEqDiff, Nat.reduceLT, Nat.reduceLeDiff, Nat.reduceMul, reduceCtorEq, W_join, h4, h5, r0, r1, ci]
                exact hK
            · have hno : ¬ ((decide (i = p + 1) = true ∧ at' b (i : Int) = 128) ∨ 268435455 < n * 128 + at' b (i : Int) % 128 ∨ (at' b (i : Int) < 128 ∧ n * 128 + at' b (i : Int) % 128 < 31)) := fun h => by rcases h with h | h | h; exact hB h.2; exact hC h; exact hD h.1
              simp (disch := omega) only [wu64, wu32, wu8, fdiv_nn, EO, ↓EP, EQ, EM, ↓reduceIte, Int.reduceAdd, Int.reduceEq, Int.reduceLE, Int.reduceLT, Int.reduceMul, Int.reduceNeg, Int.reducePow, Int.reduceSub, Int.reduceToNat, Nat.reduceAdd, Nat.reduceEqDiff, Nat.reduceLT, Nat.reduceLeDiff, Nat.reduceMul, reduceCtorEq, W_join, h4, h5, r0, r1, ci]
              exact hN (b.length - (i + 1)) _ _ (by omega) ⟨rfl, i + 1, n * 128 + at' b (i : Int) % 128, by simp (disch := omega) only [wu64, wu32, wu8, fdiv_nn, EO, ↓EP, EQ, EM, ↓reduceIte, Int.reduceAdd, Int.reduceEq, Int.reduceLE, Int.reduceLT, Int.reduceMul, Int.reduceNeg, Int.reducePow, Int.reduceSub, Int.reduceToNat, Nat.reduceAdd, Nat.reduceEqDiff, Nat.reduceLT, Nat.reduceLeDiff, Nat.reduceMul, reduceCtorEq, h5, Int.natCast_add], by simp (disch := omega) only [wu64, wu32, wu8, fdiv_nn, EO, ↓EP, EQ, EM, ↓reduceIte, Int.reduceAdd, Int.reduceEq, Int.reduceLE, Int.reduceLT, Int.reduceMul, Int.reduceNeg, Int.reducePow, Int.reduceSub, Int.reduceToNat, Nat.reduceAdd, Nat.reduceEqDiff, Nat.reduceLT, Nat.reduceLeDiff, Nat.reduceMul, reduceCtorEq], by omega, by omega, rfl, by omega, by omega, fun h => by omega, hgo' hno hD⟩
      · clear hgo hnx
        by_cases hC : 268435455 < n * 128 + at' b (i : Int) % 128
        · rw [if_pos (.inr (.inl hC))] at hK
          simp (disch := omega) only [wu64, wu32, wu8, fdiv_nn, EO, ↓EP, EQ, EM, ↓reduceIte, Int.reduceAdd, Int.reduceEq, Int.reduceLE, Int.reduceLT, Int.reduceMul, Int.reduceNeg, Int.reducePow, Int.reduceSub, Int.reduceToNat, Nat.reduceAdd, Nat.reduceEqDiff, Nat.reduceLT, Nat.reduceLeDiff, Nat.reduceMul, reduceCtorEq, W_join, h4, h5, r0, r1, ci]
          exact hK
        · by_cases hD : at' b (i : Int) < 128
          · by_cases hE : n * 128 + at' b (i : Int) % 128 < 31
            · rw [if_pos (.inr (.inr ⟨hD, hE⟩))] at hK
              simp (disch := omega) only [wu64, wu32, wu8, fdiv_nn, EO, ↓EP, EQ, EM, ↓reduceIte, Int.reduceAdd, Int.reduceEq, Int.reduceLE, Int.reduceLT, Int.reduceMul, Int.reduceNeg, Int.reducePow, Int.reduceSub, Int.reduceToNat, Nat.reduceAdd, Nat.reduceEqDiff, Nat.reduceLT, Nat.reduceLeDiff, Nat.reduceMul, reduceCtorEq, W_join, h4, h5, r0, r1, ci]
              exact hK
            · rw [if_neg (fun h => by rcases h with h | h | h; exact hA (of_decide_eq_true h.1); exact hC h; exact hE h.2), if_pos hD] at hK
              simp (disch := omega) only [wu64, wu32, wu8, fdiv_nn, EO, ↓EP, EQ, EM, ↓reduceIte, Int.reduceAdd, Int.reduceEq, Int.reduceLE, Int.reduceLT, Int.reduceMul, Int.reduceNeg, Int.reducePow, Int.reduceSub, Int.reduceToNat, Nat.reduceAdd, Nat.reduceEqDiff, Nat.reduceLT, Nat.reduceLeDiff, Nat.reduceMul, reduceCtorEq, W_join, h4, h5, r0, r1, ci]
              exact hK
          · have hno : ¬ ((decide (i = p + 1) = true ∧ at' b (i : Int) = 128) ∨ 268435455 < n * 128 + at' b (i : Int) % 128 ∨ (at' b (i : Int) < 128 ∧ n * 128 + at' b (i : Int) % 128 < 31)) := fun h => by rcases h with h | h | h; exact hA (of_decide_eq_true h.1); exact hC h; exact hD h.1
            simp (disch := omega) only [wu64, wu32, wu8, fdiv_nn, EO, ↓EP, EQ, EM, ↓reduceIte, Int.reduceAdd, Int.reduceEq, Int.reduceLE, Int.reduceLT, Int.reduceMul, Int.reduceNeg, Int.reducePow, Int.reduceSub, Int.reduceToNat, Nat.reduceAdd, Nat.reduceEqDiff, Nat.reduceLT, Nat.reduceLeDiff, Nat.reduceMul, reduceCtorEq, W_join, h4, h5, r0, r1, ci]
            exact hN (b.length - (i + 1)) _ _ (by omega) ⟨rfl, i + 1, n * 128 + at' b (i : Int) % 128, by simp (disch := omega) only [wu64, wu32, wu8, fdiv_nn, EO, ↓EP, EQ, EM, ↓reduceIte, Int.reduceAdd, Int.reduceEq, Int.reduceLE, Int.reduceLT, Int.reduceMul, Int.reduceNeg, Int.reducePow, Int.reduceSub, Int.reduceToNat, Nat.reduceAdd, Nat.reduceEqDiff, Nat.reduceLT, Nat.reduceLeDiff, Nat.reduceMul, reduceCtorEq, h5, Int.natCast_add], by simp (disch := omega) only [wu64, wu32, wu8, fdiv_nn, EO, ↓EP, EQ, EM, ↓reduceIte, Int.reduceAdd, Int.reduceEq, Int.reduceLE, Int.reduceLT, Int.reduceMul, Int.reduceNeg, Int.reducePow, Int.reduceSub, Int.reduceToNat, Nat.reduceAdd, Nat.reduceEqDiff, Nat.reduceLT, Nat.reduceLeDiff, Nat.reduceMul, reduceCtorEq], by omega, by omega, rfl, by omega, by omega, fun h => by omega, hgo' hno hD⟩
    · have hil' : i = b.length := by omega
      subst hil'
      rw [List.drop_length, tagGo] at hK
      simp (disch := omega) only [wu64, wu32, wu8, fdiv_nn, EO, ↓EP, EQ, EM, ↓reduceIte, Int.reduceAdd, Int.reduceEq, Int.reduceLE, Int.reduceLT, Int.reduceMul, Int.reduceNeg, Int.reducePow, Int.reduceSub, Int.reduceToNat, Nat.reduceAdd, Nat.reduceEqDiff, Nat.reduceLT, Nat.reduceLeDiff, Nat.reduceMul, reduceCtorEq, W_join, h4, h5, r0, r1]
      exact hK
  · rw [if_neg h31] at hK
    by_cases h0 : at' b (p : Int) % 32 = 0
    · by_cases h6 : at' b (p : Int) < 64
      · rw [if_pos ⟨h0, h6⟩] at hK
        have e6 : at' b (p : Int) / 64 = 0 := by omega
        simp (disch := omega) only [wu64, wu32, wu8, fdiv_nn, EO, ↓EP, EQ, EM, ↓reduceIte, Int.reduceAdd, Int.reduceEq, Int.reduceLE, Int.reduceLT, Int.reduceMul, Int.reduceNeg, Int.reducePow, Int.reduceSub, Int.reduceToNat, Nat.reduceAdd, Nat.reduceEqDiff, Nat.reduceLT, Nat.reduceLeDiff, Nat.reduceMul, reduceCtorEq, Code.c54, c0, h0]
        exact hK
      · rw [if_neg (fun h => h6 h.2)] at hK
        simp (disch := omega) only [wu64, wu32, wu8, fdiv_nn, EO, ↓EP, EQ, EM, ↓reduceIte, Int.reduceAdd, Int.reduceEq, Int.reduceLE, Int.reduceLT, Int.reduceMul, Int.reduceNeg, Int.reducePow, Int.reduceSub, Int.reduceToNat, Nat.reduceAdd, Nat.reduceEqDiff, Nat.reduceLT, Nat.reduceLeDiff, Nat.reduceMul, reduceCtorEq, Code.c54, c0, h0]
        rw [h0] at hK
        exact hK
    · rw [if_neg (fun h => h0 h.1)] at hK
      simp (disch := omega) only [wu64, wu32, wu8, fdiv_nn, EO, ↓EP, EQ, EM, ↓reduceIte, Int.reduceAdd, Int.reduceEq, Int.reduceLE, Int.reduceLT, Int.reduceMul, Int.reduceNeg, Int.reducePow, Int.reduceSub, Int.reduceToNat, Nat.reduceAdd, Nat.reduceEqDiff, Nat.reduceLT, Nat.reduceLeDiff, Nat.reduceMul, reduceCtorEq, Code.c54, c0]
      exact hK
set_option maxHeartbeats 2000000 in
theorem rlength_vw {w : World} {v : Value} {b : List Int} {i : Nat} (hv : Vw .u8 w v b) (hb : ByteL b) (hi : i ≤ b.length) (hm : b.length ≤ 16777216) (K : Value → World → Prop)
    (hK : K (tup4 (lenR b i)) w) : callK Tryd.prog 55 [v, .int .i64 i] w K := by
  obtain ⟨A, c, rfl, hc, hr⟩ := hv
  refine call_of Tryd.func55 Code.h55 (by simp [Code.c55]) ?_
  unfold lenR at hK
  by_cases hil : (b.length : Int) ≤ (i : Int)
  · rw [if_pos (by omega)] at hK
    simp (disch := omega) only [wu64, wu32, wu8, fdiv_nn, EO, ↓EP, EQ, EM, ↓reduceIte, Int.reduceAdd, Int.reduceEq, Int.reduceLE, Int.reduceLT, Int.reduceMul, Int.reduceNeg, Int.reducePow, Int.reduceSub, Int.reduceToNat, Nat.reduceAdd, Nat.reduceEqDiff, Nat.reduceLT, Nat.reduceLeDiff, Nat.reduceMul, reduceCtorEq, Code.c55]
    exact hK
  rw [if_neg (by omega)] at hK
  obtain ⟨ad, e, _, hcl⟩ := hr.get (by rw [nums_length]; omega)
  subst e
  have cell : ∀ i : Nat, i < b.length → w.cell? (ad.add i) = some (.int .u8 (at' b (i : Int))) := fun i hi => hcl.numN hi
  have ci := cell i (by omega)
  have bi := hb i
  by_cases h128 : at' b (i : Int) < 128
  · rw [if_pos h128] at hK
    have e2 : ((b.length - (i + 1) : Nat) : Int) = (b.length : Int) - ((i : Int) + 1) := by omega
    rw [e2] at hK
    by_cases hn : (b.length : Int) - ((i : Int) + 1) < at' b (i : Int)
    · rw [if_pos hn] at hK
      simp (disch := omega) only [wu64, wu32, wu8, fdiv_nn, EO, ↓EP, EQ, EM, ↓reduceIte, Int.reduceAdd, Int.reduceEq, Int.reduceLE, Int.reduceLT, Int.reduceMul, Int.reduceNeg, Int.reducePow, Int.reduceSub, Int.reduceToNat, Nat.reduceAdd, Nat.reduceEqDiff, Nat.reduceLT, Nat.reduceLeDiff, Nat.reduceMul, reduceCtorEq, Code.c55, W_join, ci]
      exact hK
    · rw [if_neg hn] at hK
      simp (disch := omega) only [wu64, wu32, wu8, fdiv_nn, EO, ↓EP, EQ, EM, ↓reduceIte, Int.reduceAdd, Int.reduceEq, Int.reduceLE, Int.reduceLT, Int.reduceMul, Int.reduceNeg, Int.reducePow, Int.reduceSub, Int.reduceToNat, Nat.reduceAdd, Nat.reduceEqDiff, Nat.reduceLT, Nat.reduceLeDiff, Nat.reduceMul, reduceCtorEq, Code.c55, W_join, ci]
      exact hK
  rw [if_neg h128] at hK
  by_cases hq : at' b (i : Int) = 128 ∨ at' b (i : Int) = 255
  · rw [if_pos hq] at hK
    rcases hq with hq | hq
    · simp (disch := omega) only [wu64, wu32, wu8, fdiv_nn, EO, ↓EP, EQ, EM, ↓reduceIte, Int.reduceAdd, Int.reduceEq, Int.reduceLE, Int.reduceLT, Int.reduceMul, Int.reduceNeg, Int.reducePow, Int.reduceSub, Int.reduceToNat, Nat.reduceAdd, Nat.reduceEqDiff, Nat.reduceLT, Nat.reduceLeDiff, Nat.reduceMul, reduceCtorEq, Code.c55, W_join, ci]
      exact hK
    · simp (disch := omega) only [wu64, wu32, wu8, fdiv_nn, EO, ↓EP, EQ, EM, ↓reduceIte, Int.reduceAdd, Int.reduceEq, Int.reduceLE, Int.reduceLT, Int.reduceMul, Int.reduceNeg, Int.reducePow, Int.reduceSub, Int.reduceToNat, Nat.reduceAdd, Nat.reduceEqDiff, Nat.reduceLT, Nat.reduceLeDiff, Nat.reduceMul, reduceCtorEq, Code.c55, W_join, ci]
      exact hK
  rw [if_neg hq] at hK
  obtain ⟨k, hk⟩ : ∃ k : Nat, at' b (i : Int) = 128 + (k : Int) := ⟨(at' b (i : Int) - 128).toNat, by omega⟩
  have ek' : (at' b (i : Int) - 128).toNat = k := by omega
  rw [ek'] at hK
  have hk1 : 0 < k := by omega
  have hk127 : k < 127 := by omega
  rw [hk] at ci
  by_cases hs : b.length < i + 1 + k
  · rw [if_pos hs] at hK
    simp (disch := omega) only [wu64, wu32, wu8, fdiv_nn, EO, ↓EP, EQ, EM, ↓reduceIte, Int.reduceAdd, Int.reduceEq, Int.reduceLE, Int.reduceLT, Int.reduceMul, Int.reduceNeg, Int.reducePow, Int.reduceSub, Int.reduceToNat, Nat.reduceAdd, Nat.reduceEqDiff, Nat.reduceLT, Nat.reduceLeDiff, Nat.reduceMul, reduceCtorEq, Code.c55, W_join, ci]
    exact hK
  rw [if_neg hs] at hK
  simp (disch := omega) only [wu64, wu32, wu8, fdiv_nn, EO, ↓EP, EQ, EM, ↓reduceIte, Int.reduceAdd, Int.reduceEq, Int.reduceLE, Int.reduceLT, Int.reduceMul, Int.reduceNeg, Int.reducePow, Int.reduceSub, Int.reduceToNat, Nat.reduceAdd, Nat.reduceEqDiff, Nat.reduceLT, Nat.reduceLeDiff, Nat.reduceMul, reduceCtorEq, Code.c55, W_join, ci]
  generalize hq2 : (b.drop (i + 1)).take k = q at hK
  have hqm : ∀ x ∈ q, 0 ≤ x ∧ x < 256 := fun x hx => byteL_mem hb x (by rw [← hq2] at hx; exact List.mem_of_mem_drop (List.mem_of_mem_take hx))
  have hql : q.length = k := by rw [← hq2]; simp; omega
  have qat : ∀ j : Nat, j < k → at' q (j : Int) = at' b ((i + 1 + j : Nat) : Int) := fun j hj => by rw [← hq2, at_take hj, at_drop]
  refine loop_inv (fun t ρ w' => w' = w ∧ ∃ j : Nat, ρ 11 = .int .i64 ((i : Int) + 1 + (j : Int)) ∧ j ≤ k ∧ t = k - j ∧ ρ 8 = .int .i64 (lenFold (q.take j))) k ⟨rfl, 0, by simp (disch := omega) only [wu64, wu32, wu8, fdiv_nn, EO, ↓EP, EQ, EM, ↓reduceIte, Int.reduceAdd, Int.reduceEq, Int.reduceLE, Int.reduceLT, Int.reduceMul, Int.reduceNeg, Int.reducePow, Int.reduceSub, Int.reduceToNat, Nat.reduceAdd, Nat.reduceEqDiff, Nat.reduceLT, Nat.reduceLeDiff, Nat.reduceMul, reduceCtorEq, Int.natCast_zero, Int.add_zero], by omega, by omega, by simp (disch := omega) only [wu64, wu32, wu8, fdiv_nn, EO, ↓EP, EQ, EM, ↓reduceIte, Int.reduceAdd, Int.reduceEq, Int.reduceLE, Int.reduceLT, Int.reduceMul, Int.reduceNeg, Int.reducePow, Int.reduceSub, Int.reduceToNat, Nat.reduceAdd, Nat.reduceEqDiff, Nat.reduceLT, Nat.reduceLeDiff, Nat.reduceMul, reduceCtorEq]; rfl⟩ ?_
  rintro t ρ w' hf ⟨rfl, j, h11, hj, rfl, h8⟩ N hN
  have r0 : ρ 0 = .slice (some ad) b.length c := by rw [hf 0 rfl]; simp (disch := omega) only [wu64, wu32, wu8, fdiv_nn, EO, ↓EP, EQ, EM, ↓reduceIte, Int.reduceAdd, Int.reduceEq, Int.reduceLE, Int.reduceLT, Int.reduceMul, Int.reduceNeg, Int.reducePow, Int.reduceSub, Int.reduceToNat, Nat.reduceAdd, Nat.reduceEqDiff, Nat.reduceLT, Nat.reduceLeDiff, Nat.reduceMul, reduceCtorEq]
  have r1 : ρ 1 = .int .i64 i := by rw [hf 1 rfl]; simp (disch := omega) only [wu64, wu32, wu8, fdiv_nn, EO, ↓EP, EQ, EM, ↓reduceIte, Int.reduceAdd, Int.reduceEq, Int.reduceLE, Int.reduceLT, Int.reduceMul, Int.reduceNeg, Int.reducePow, Int.reduceSub, Int.reduceToNat, Nat.reduceAdd, Nat.reduceEqDiff, Nat.reduceLT, Nat.reduceLeDiff, Nat.reduceMul, reduceCtorEq]
  have r10 : ρ 10 = .int .i64 k := by rw [hf 10 rfl]; simp (disch := omega) only [wu64, wu32, wu8, fdiv_nn, EO, ↓EP, EQ, EM, ↓reduceIte, Int.reduceAdd, Int.reduceEq, Int.reduceLE, Int.reduceLT, Int.reduceMul, Int.reduceNeg, Int.reducePow, Int.reduceSub, Int.reduceToNat, Nat.reduceAdd, Nat.reduceEqDiff, Nat.reduceLT, Nat.reduceLeDiff, Nat.reduceMul, reduceCtorEq]; congr 1; omega
  clear hf
  have hfb := fold_bd (l := q.take j) (fun x hx => hqm x (List.mem_of_mem_take hx))
  by_cases hjk : (j : Int) < (k : Int)
  · have cj := cell (i + 1 + j) (by omega)
    have et : ((i : Int) + 1 + (j : Int)).toNat = i + 1 + j := by omega
    have bj := hb (i + 1 + j)
    rw [← qat j (by omega)] at cj bj
    have hst : lenFold (q.take (j + 1)) = if 16777217 < lenFold (q.take j) * 256 + at' q (j : Int) then 16777217 else lenFold (q.take j) * 256 + at' q (j : Int) := by
      rw [take_snoc (by omega), fold_snoc]; rfl
    by_cases hcap : 16777216 < lenFold (q.take j) * 256 + at' q (j : Int)
    · have hst' : lenFold (q.take (j + 1)) = 16777217 := by rw [hst]; split <;> omega
      simp (disch := omega) only [wu64, wu32, wu8, fdiv_nn, EO, ↓EP, EQ, EM, ↓reduceIte, Int.reduceAdd, Int.reduceEq, Int.reduceLE, Int.reduceLT, Int.reduceMul, Int.reduceNeg, Int.reducePow, Int.reduceSub, Int.reduceToNat, Nat.reduceAdd, Nat.reduceEqDiff, Nat.reduceLT, Nat.reduceLeDiff, Nat.reduceMul, reduceCtorEq, W_join, h11, h8, r0, r1, r10, et, cj]
      exact hN (k - (j + 1)) _ _ (by omega) ⟨rfl, j + 1, by simp (disch := omega) only [wu64, wu32, wu8, fdiv_nn, EO, ↓EP, EQ, EM, ↓reduceIte, Int.reduceAdd, Int.reduceEq, Int.reduceLE, Int.reduceLT, Int.reduceMul, Int.reduceNeg, Int.reducePow, Int.reduceSub, Int.reduceToNat, Nat.reduceAdd, Nat.reduceEqDiff, Nat.reduceLT, Nat.reduceLeDiff, Nat.reduceMul, reduceCtorEq, h11]; congr 1, by omega, rfl, by simp (disch := omega) only [wu64, wu32, wu8, fdiv_nn, EO, ↓EP, EQ, EM, ↓reduceIte, Int.reduceAdd, Int.reduceEq, Int.reduceLE, Int.reduceLT, Int.reduceMul, Int.reduceNeg, Int.reducePow, Int.reduceSub, Int.reduceToNat, Nat.reduceAdd, Nat.reduceEqDiff, Nat.reduceLT, Nat.reduceLeDiff, Nat.reduceMul, reduceCtorEq, hst']⟩
    · have hst' : lenFold (q.take (j + 1)) = lenFold (q.take j) * 256 + at' q (j : Int) := by rw [hst]; split <;> omega
      simp (disch := omega) only [wu64, wu32, wu8, fdiv_nn, EO, ↓EP, EQ, EM, ↓reduceIte, Int.reduceAdd, Int.reduceEq, Int.reduceLE, Int.reduceLT, Int.reduceMul, Int.reduceNeg, Int.reducePow, Int.reduceSub, Int.reduceToNat, Nat.reduceAdd, Nat.reduceEqDiff, Nat.reduceLT, Nat.reduceLeDiff, Nat.reduceMul, reduceCtorEq, W_join, h11, h8, r0, r1, r10, et, cj]
      exact hN (k - (j + 1)) _ _ (by omega) ⟨rfl, j + 1, by simp (disch := omega) only [wu64, wu32, wu8, fdiv_nn, EO, ↓EP, EQ, EM, ↓reduceIte, Int.reduceAdd, Int.reduceEq, Int.reduceLE, Int.reduceLT, Int.reduceMul, Int.reduceNeg, Int.reducePow, Int.reduceSub, Int.reduceToNat, Nat.reduceAdd, Nat.reduceEqDiff, Nat.reduceLT, Nat.reduceLeDiff, Nat.reduceMul, reduceCtorEq, h11]; congr 1, by omega, rfl, by simp (disch := omega) only [wu64, wu32, wu8, fdiv_nn, EO, ↓EP, EQ, EM, ↓reduceIte, Int.reduceAdd, Int.reduceEq, Int.reduceLE, Int.reduceLT, Int.reduceMul, Int.reduceNeg, Int.reducePow, Int.reduceSub, Int.reduceToNat, Nat.reduceAdd, Nat.reduceEqDiff, Nat.reduceLT, Nat.reduceLeDiff, Nat.reduceMul, reduceCtorEq, hst']⟩
  · have hjk' : j = k := by omega
    subst hjk'
    clear hN
    rw [List.take_of_length_le (by omega)] at h8 hfb
    have c1 := cell (i + 1) (by omega)
    have elo : ((i : Int) + 1).toNat = i + 1 := by omega
    have eb : ((b.length - (i + 1 + j) : Nat) : Int) = (b.length : Int) - ((i : Int) + 1 + (j : Int)) := by omega
    rw [eb] at hK
    by_cases hz : at' b ((i + 1 : Nat) : Int) = 0
    · rw [if_pos (.inr hz)] at hK
      rw [hz] at c1
      by_cases hf128 : lenFold q < 128
      · simp (disch := omega) only [wu64, wu32, wu8, fdiv_nn, EO, ↓EP, EQ, EM, ↓reduceIte, Int.reduceAdd, Int.reduceEq, Int.reduceLE, Int.reduceLT, Int.reduceMul, Int.reduceNeg, Int.reducePow, Int.reduceSub, Int.reduceToNat, Nat.reduceAdd, Nat.reduceEqDiff, Nat.reduceLT, Nat.reduceLeDiff, Nat.reduceMul, reduceCtorEq, W_join, h11, h8, r0, r1, r10, elo, c1]
        exact hK
      · simp (disch := omega) only [wu64, wu32, wu8, fdiv_nn, EO, ↓EP, EQ, EM, ↓reduceIte, Int.reduceAdd, Int.reduceEq, Int.reduceLE, Int.reduceLT, Int.reduceMul, Int.reduceNeg, Int.reducePow, Int.reduceSub, Int.reduceToNat, Nat.reduceAdd, Nat.reduceEqDiff, Nat.reduceLT, Nat.reduceLeDiff, Nat.reduceMul, reduceCtorEq, W_join, h11, h8, r0, r1, r10, elo, c1]
        exact hK
    have hzf : (at' b ((i + 1 : Nat) : Int) = 0) = False := eq_false hz
    by_cases hf128 : lenFold q < 128
    · rw [if_pos (.inl hf128)] at hK
      simp (disch := omega) only [wu64, wu32, wu8, fdiv_nn, EO, ↓EP, EQ, EM, ↓reduceIte, Int.reduceAdd, Int.reduceEq, Int.reduceLE, Int.reduceLT, Int.reduceMul, Int.reduceNeg, Int.reducePow, Int.reduceSub, Int.reduceToNat, Nat.reduceAdd, Nat.reduceEqDiff, Nat.reduceLT, Nat.reduceLeDiff, Nat.reduceMul, reduceCtorEq, W_join, h11, h8, r0, r1, r10, elo, c1, hzf]
      exact hK
    rw [if_neg (fun h => by rcases h with h | h; exact hf128 h; exact hz h)] at hK
    by_cases hlast : (b.length : Int) - ((i : Int) + 1 + (j : Int)) < lenFold q
    · rw [if_pos hlast] at hK
      simp (disch := omega) only [wu64, wu32, wu8, fdiv_nn, EO, ↓EP, EQ, EM, ↓reduceIte, Int.reduceAdd, Int.reduceEq, Int.reduceLE, Int.reduceLT, Int.reduceMul, Int.reduceNeg, Int.reducePow, Int.reduceSub, Int.reduceToNat, Nat.reduceAdd, Nat.reduceEqDiff, Nat.reduceLT, Nat.reduceLeDiff, Nat.reduceMul, reduceCtorEq, W_join, h11, h8, r0, r1, r10, elo, c1, hzf]
      exact hK
    · rw [if_neg hlast] at hK
      simp (disch := omega) only [wu64, wu32, wu8, fdiv_nn, EO, ↓EP, EQ, EM, ↓reduceIte, Int.reduceAdd, Int.reduceEq, Int.reduceLE, Int.reduceLT, Int.reduceMul, Int.reduceNeg, Int.reducePow, Int.reduceSub, Int.reduceToNat, Nat.reduceAdd, Nat.reduceEqDiff, Nat.reduceLT, Nat.reduceLeDiff, Nat.reduceMul, reduceCtorEq, W_join, h11, h8, r0, r1, r10, elo, c1, hzf]
      exact hK
end Go.Proofs.YtcflokckfjkdpaaDoor.Der

/- The document's rows of elements, walked. -/
set_option linter.unusedVariables false
set_option linter.unusedSimpArgs false
namespace Go.Proofs.YtcflokckfjkdpaaDoor.Der
open Go Go.RowKit Go.Proofs Go.Proofs.YtcflokckfjkdpaaDoor.Eng Go.Proofs.YtcflokckfjkdpaaDoor.Code
set_option maxRecDepth 100000
attribute [local irreducible] callK S.W opsW scrW scrT

theorem app_ns {k : IntKind} {e bytes : Nat} {w : World} {x : Value} {B : Option Addr} {m d N : Nat} {l l' : List Int} {K : Value → World → Prop} (hx : Sl k w x l) (hm : l'.length = m) (hy : Rd w B (nums k l'))
    (hs : (l.length + l'.length) * bytes ≤ 140737488355328) (hb : 0 < bytes) (hN : (l ++ l').length = N) (hK : ∀ A c w', Apd k w x (l ++ l') (.slice A N c) w' → K (.slice A N c) w') : appK e 1 bytes #[.int k 0] x (.slice B m d) w K := by
  refine app_num hx hm hy hs hb fun v w' a => ?_
  obtain ⟨A, c, e, _, _⟩ := readn a.sl hN
  subst e
  exact hK _ _ _ a
theorem new_gw {k : IntKind} {w w' : World} (n : New w w' (nums k [])) : Gw k w w' (.slice (some ⟨w.heap.size, 0, none⟩) 0 0) [] := ⟨n.sl, fun b e => by cases e; exact Nat.le_refl _, n.fr nob⟩
/-- Two rows under way, apart from one another. -/
structure Two (W w : World) (D : Value) (ld : List Int) (R : Value) (lr : List Int) : Prop where
  gd : Gw .u8 W w D ld
  gr : Gw .u8 W w R lr
  ap : ∀ b, blkOf D = some b → blkOf R ≠ some b
theorem Two.swap {W w : World} {D R : Value} {ld lr : List Int} (t : Two W w D ld R lr) : Two W w R lr D ld := ⟨t.gr, t.gd, fun b h e => t.ap b e h⟩
theorem Two.step {W w w' : World} {D R : Value} {ld lr : List Int} (t : Two W w D ld R lr) (f : Fr w w' nob) : Two W w' D ld R lr := ⟨t.gd.step f, t.gr.step f, t.ap⟩
theorem Two.newR {W w w' : World} {D : Value} {ld : List Int} (g : Gw .u8 W w D ld) (n : New w w' (nums .u8 [])) : Two W w' D ld (.slice (some ⟨w.heap.size, 0, none⟩) 0 0) [] :=
  ⟨g.new n, (new_gw n).from g.fr, fun b h e => by
    have h1 := g.sl.lt h
    have h2 : w.heap.size = b := Option.some.inj e
    omega⟩
theorem Two.newD {W w w' : World} {R : Value} {lr : List Int} (g : Gw .u8 W w R lr) (n : New w w' (nums .u8 [])) : Two W w' (.slice (some ⟨w.heap.size, 0, none⟩) 0 0) [] R lr := (Two.newR g n).swap
theorem Two.appD {W w w' : World} {D D' R : Value} {ld ld' lr : List Int} (t : Two W w D ld R lr) (a : Apd .u8 w D ld' D' w') : Two W w' D' ld' R lr :=
  ⟨t.gd.apd a, t.gr.other a.fr (fun b h e => t.ap b e h) (fun b hb e => by have := t.gd.up b e; omega), fun b h e => by
    rcases a.where_ with hw | hw
    · exact t.ap b (hw ▸ h) e
    · have h1 := hw b h
      have h2 := t.gr.sl.lt e
      omega⟩
theorem Two.appR {W w w' : World} {D R R' : Value} {ld lr lr' : List Int} (t : Two W w D ld R lr) (a : Apd .u8 w R lr' R' w') : Two W w' D ld R' lr' := (t.swap.appD a).swap
/-- Two new ones, made behind the others. -/
theorem Rws.add2 {w0 w w' : World} {X d r : Value} {vs : List Value} {ls : List (List Int)} {ld lr : List Int} (h : Rws w0 w X vs ls) (hX : ∀ b, blkOf X = some b → b < w.heap.size) (f0 : Fr w0 w nob) (t : Two w w' d ld r lr) : Rws w0 w' X (vs ++ [d, r]) (ls ++ [ld, lr]) := by
  have h' := h.nb t.gd.fr
  have old : ∀ (i : Nat) (u : Value) (b : Nat), vs[i]? = some u → blkOf u = some b → b < w.heap.size := fun i u b h1 h2 => (h.up i u b h1 h2).2.1
  have spl : ∀ {i : Nat} {u : Value}, (vs ++ [d, r])[i]? = some u → (i < vs.length ∧ vs[i]? = some u) ∨ (i = vs.length ∧ u = d) ∨ (i = vs.length + 1 ∧ u = r) := by
    intro i u hi
    by_cases hlt : i < vs.length
    · rw [List.getElem?_append_left hlt] at hi; exact .inl ⟨hlt, hi⟩
    · have hi' := (List.getElem?_eq_some_iff.1 hi).1
      simp at hi'
      rw [List.getElem?_append_right (by omega)] at hi
      by_cases e : i = vs.length
      · subst e; simp at hi; exact .inr (.inl ⟨rfl, hi.symm⟩)
      · have e2 : i = vs.length + 1 := by omega
        subst e2; simp at hi; exact .inr (.inr ⟨rfl, hi.symm⟩)
  have z := f0.size
  have upd : ∀ u b, u = d ∨ u = r → blkOf u = some b → w.heap.size ≤ b ∧ b < w'.heap.size := by
    intro u b hu hb
    rcases hu with rfl | rfl
    · exact ⟨t.gd.up b hb, t.gd.sl.lt hb⟩
    · exact ⟨t.gr.up b hb, t.gr.sl.lt hb⟩
  refine ⟨by simp [h.len], fun i u l' h1 h2 => ?_, fun i u b h1 h2 => ?_, fun i j u u' b hne h1 h2 hb => ?_⟩
  · rcases spl h1 with ⟨hlt, h1⟩ | ⟨rfl, rfl⟩ | ⟨rfl, rfl⟩
    · rw [List.getElem?_append_left (by rw [← h.len]; exact hlt)] at h2
      exact h'.each i u l' h1 h2
    · rw [h.len] at h2
      simp at h2
      subst h2
      exact t.gd.sl
    · rw [h.len, List.getElem?_append_right (by omega)] at h2
      simp at h2
      subst h2
      exact t.gr.sl
  · rcases spl h1 with ⟨hlt, h1⟩ | ⟨_, e⟩ | ⟨_, e⟩
    · exact h'.up i u b h1 h2
    · have := upd u b (.inl e) h2
      exact ⟨by omega, this.2, fun e => by have := hX b e; omega⟩
    · have := upd u b (.inr e) h2
      exact ⟨by omega, this.2, fun e => by have := hX b e; omega⟩
  · intro hb'
    rcases spl h1 with ⟨_, k1⟩ | ⟨i1, e1⟩ | ⟨i1, e1⟩ <;> rcases spl h2 with ⟨_, k2⟩ | ⟨i2, e2⟩ | ⟨i2, e2⟩
    · exact h.apart i j u u' b hne k1 k2 hb hb'
    · have := old i u b k1 hb; have := upd u' b (.inl e2) hb'; omega
    · have := old i u b k1 hb; have := upd u' b (.inr e2) hb'; omega
    · have := old j u' b k2 hb'; have := upd u b (.inl e1) hb; omega
    · omega
    · subst e1 e2; exact t.ap b hb hb'
    · have := old j u' b k2 hb'; have := upd u b (.inr e1) hb; omega
    · subst e1 e2; exact t.ap b hb' hb
    · omega
theorem Tls.add2 {w0 w w2 w3 w4 : World} {X X' : Value} {ts : List Tlv} {vs : List Value} {t : Tlv} {d r : Value} (h : Tls w0 w X ts vs) (q : Two w w2 d t.data r t.raw) (f : Fr w2 w3 nob) (a : Ag 5 w3 X (ts.length + 1) (cellsT ts vs ++ tcells t d r) X' w4) : Tls w0 w4 X' (ts ++ [t]) (vs ++ [d, r]) := by
  have hX : ∀ b, blkOf X = some b → b < w.heap.size := fun b e => h.g.sl.lt e
  have r3 := ((h.r.add2 hX h.g.fr q).nb f).row a
  refine ⟨?_, ?_⟩
  · rw [List.length_append, cellsT_add ts vs t d r h.vlen]
    exact ((h.g.step q.gd.fr).step f).apd a
  · rw [tflat_add]; exact r3
set_option maxHeartbeats 4000000 in
theorem rsplit_vw {w : World} {v : Value} {b : List Int} (hv : Vw .u8 w v b) (hb : ByteL b) (h63 : b.length ≤ 9223372036854775807) (K : Value → World → Prop)
    (hK : ∀ X vs w', Tls w w' X (splitR b).1 vs → K (tup3 X (splitR b).2.1 (splitR b).2.2) w') : callK Tryd.prog 28 [v] w K := by
  obtain ⟨A, c, rfl, hc, hr⟩ := hv
  refine call_of Tryd.func28 Code.h28 (by simp [Code.c28]) ?_
  unfold splitR at hK
  by_cases hm : (16777216 : Int) < (b.length : Int)
  · rw [if_pos (by omega)] at hK
    simp (disch := omega) only [wu64, wu32, wu8, fdiv_nn, EO, ↓EP, EQ, EM, ↓reduceIte, Int.reduceAdd, Int.reduceEq, Int.reduceLE, Int.reduceLT, Int.reduceMul, Int.reduceNeg, Int.reducePow, Int.reduceSub, Int.reduceToNat, Nat.reduceAdd, Nat.reduceEqDiff, Nat.reduceLT, Nat.reduceLeDiff, Nat.reduceMul, reduceCtorEq, Code.c28]
    exact hK _ [] _ (Tls.nil w)
  rw [if_neg (by omega)] at hK
  simp (disch := omega) only [wu64, wu32, wu8, fdiv_nn, EO, ↓EP, EQ, EM, ↓reduceIte, Int.reduceAdd, Int.reduceEq, Int.reduceLE, Int.reduceLT, Int.reduceMul, Int.reduceNeg, Int.reducePow, Int.reduceSub, Int.reduceToNat, Nat.reduceAdd, Nat.reduceEqDiff, Nat.reduceLT, Nat.reduceLeDiff, Nat.reduceMul, reduceCtorEq, Code.c28]
  refine loop_inv (fun t ρ w' => ∃ (p f : Nat) (X : Value) (ts : List Tlv) (vs : List Value), ρ 6 = .int .i64 p ∧ ρ 5 = X ∧ p ≤ b.length ∧ t = b.length - p ∧ b.length - p < f ∧ ts.length ≤ 65536 ∧ Tls w w' X ts vs ∧ splitGo b f p ts = splitGo b (b.length + 1) 0 []) _ ⟨0, b.length + 1, .slice none 0 0, [], [], by simp (disch := omega) only [wu64, wu32, wu8, fdiv_nn, EO, ↓EP, EQ, EM, ↓reduceIte, Int.reduceAdd, Int.reduceEq, Int.reduceLE, Int.reduceLT, Int.reduceMul, Int.reduceNeg, Int.reducePow, Int.reduceSub, Int.reduceToNat, Nat.reduceAdd, Nat.reduceEqDiff, Nat.reduceLT, Nat.reduceLeDiff, Nat.reduceMul, reduceCtorEq], by simp (disch := omega) only [wu64, wu32, wu8, fdiv_nn, EO, ↓EP, EQ, EM, ↓reduceIte, Int.reduceAdd, Int.reduceEq, Int.reduceLE, Int.reduceLT, Int.reduceMul, Int.reduceNeg, Int.reducePow, Int.reduceSub, Int.reduceToNat, Nat.reduceAdd, Nat.reduceEqDiff, Nat.reduceLT, Nat.reduceLeDiff, Nat.reduceMul, reduceCtorEq], by omega, rfl, by omega, by simp, Tls.nil w, rfl⟩ ?_
  rintro t ρ w1 hf ⟨p, f, X, ts, vs, h6, h5, hp, rfl, hfu, hts, T, hgo⟩ N hN
  have r0 : ρ 0 = .slice A b.length c := by rw [hf 0 rfl]; simp (disch := omega) only [wu64, wu32, wu8, fdiv_nn, EO, ↓EP, EQ, EM, ↓reduceIte, Int.reduceAdd, Int.reduceEq, Int.reduceLE, Int.reduceLT, Int.reduceMul, Int.reduceNeg, Int.reducePow, Int.reduceSub, Int.reduceToNat, Nat.reduceAdd, Nat.reduceEqDiff, Nat.reduceLT, Nat.reduceLeDiff, Nat.reduceMul, reduceCtorEq]
  clear hf
  rw [← hgo] at hK hN
  obtain ⟨f, rfl⟩ : ∃ g, f = g + 1 := ⟨f - 1, by omega⟩
  obtain ⟨XA, xc, rfl, hxc, _⟩ := T.g.sl.read
  by_cases hpl : (p : Int) < (b.length : Int)
  · rw [splitGo, if_neg (by omega)] at hK hN
    by_cases h64 : (ts.length : Int) = 65536
    · rw [if_pos (by omega)] at hK
      simp (disch := omega) only [wu64, wu32, wu8, fdiv_nn, EO, ↓EP, EQ, EM, ↓reduceIte, Int.reduceAdd, Int.reduceEq, Int.reduceLE, Int.reduceLT, Int.reduceMul, Int.reduceNeg, Int.reducePow, Int.reduceSub, Int.reduceToNat, Nat.reduceAdd, Nat.reduceEqDiff, Nat.reduceLT, Nat.reduceLeDiff, Nat.reduceMul, reduceCtorEq, h6, h5, r0, h64]
      exact hK _ [] _ ⟨⟨Sg.nil 5 w1, fun b e => (by cases e), T.g.fr⟩, Rws.nil w w1 _⟩
    rw [if_neg (by omega)] at hK hN
    simp (disch := omega) only [wu64, wu32, wu8, fdiv_nn, EO, ↓EP, EQ, EM, ↓reduceIte, Int.reduceAdd, Int.reduceEq, Int.reduceLE, Int.reduceLT, Int.reduceMul, Int.reduceNeg, Int.reducePow, Int.reduceSub, Int.reduceToNat, Nat.reduceAdd, Nat.reduceEqDiff, Nat.reduceLT, Nat.reduceLeDiff, Nat.reduceMul, reduceCtorEq, h6, h5, r0]
    have hr1 := hr.nb T.g.fr
    refine rtag_vw (Vw.of rfl hc hr1) hb (by omega) (by omega) _ ?_
    simp only [tup4]
    have tok := tag_ok (b := b) (p := p) (by omega)
    generalize tagR b p = tg at *
    obtain ⟨tt, ti, te, ta⟩ := tg
    simp only at *
    by_cases hte : te = 0
    rotate_left
    · rw [if_pos hte] at hK
      have hte' : (te = 0) = False := eq_false hte
      simp (disch := omega) only [wu64, wu32, wu8, fdiv_nn, EO, ↓EP, EQ, EM, ↓reduceIte, Int.reduceAdd, Int.reduceEq, Int.reduceLE, Int.reduceLT, Int.reduceMul, Int.reduceNeg, Int.reducePow, Int.reduceSub, Int.reduceToNat, Nat.reduceAdd, Nat.reduceEqDiff, Nat.reduceLT, Nat.reduceLeDiff, Nat.reduceMul, reduceCtorEq, h6, r0, hte']
      exact hK _ [] _ ⟨⟨Sg.nil 5 w1, fun b e => (by cases e), T.g.fr⟩, Rws.nil w w1 _⟩
    rw [if_neg (by simpa using hte)] at hK hN
    obtain ⟨tok1, tok2⟩ := tok hte
    simp (disch := omega) only [wu64, wu32, wu8, fdiv_nn, EO, ↓EP, EQ, EM, ↓reduceIte, Int.reduceAdd, Int.reduceEq, Int.reduceLE, Int.reduceLT, Int.reduceMul, Int.reduceNeg, Int.reducePow, Int.reduceSub, Int.reduceToNat, Nat.reduceAdd, Nat.reduceEqDiff, Nat.reduceLT, Nat.reduceLeDiff, Nat.reduceMul, reduceCtorEq, h6, r0, hte]
    refine rlength_vw (Vw.of rfl hc hr1) hb tok2 (by omega) _ ?_
    simp only [tup4]
    have lok := len_ok (b := b) (i := ti) hb
    generalize lenR b ti = lg at *
    obtain ⟨ln, lj, le, la⟩ := lg
    simp only at *
    by_cases hle : le = 0
    rotate_left
    · rw [if_pos hle] at hK
      have hle' : (le = 0) = False := eq_false hle
      simp (disch := omega) only [wu64, wu32, wu8, fdiv_nn, EO, ↓EP, EQ, EM, ↓reduceIte, Int.reduceAdd, Int.reduceEq, Int.reduceLE, Int.reduceLT, Int.reduceMul, Int.reduceNeg, Int.reducePow, Int.reduceSub, Int.reduceToNat, Nat.reduceAdd, Nat.reduceEqDiff, Nat.reduceLT, Nat.reduceLeDiff, Nat.reduceMul, reduceCtorEq, h6, r0, hle']
      exact hK _ [] _ ⟨⟨Sg.nil 5 w1, fun b e => (by cases e), T.g.fr⟩, Rws.nil w w1 _⟩
    rw [if_neg (by simpa using hle)] at hK hN
    obtain ⟨lok1, lok2, lok3⟩ := lok hle
    obtain ⟨ln, rfl⟩ := Int.eq_ofNat_of_zero_le lok2
    rw [Int.toNat_natCast] at lok3 hK hN
    obtain ⟨ad, rfl, _, _⟩ := hr.get (by rw [nums_length]; omega)
    have cellf : ∀ w', Fr w w' nob → w'.cell? (ad.add p) = some (.int .u8 (at' b (p : Int))) := fun w' f => by
      obtain ⟨ad', e', _, hcl⟩ := (hr.nb f).get (by rw [nums_length]; omega)
      cases e'
      exact hcl.numN (by omega)
    have cp := cellf w1 T.g.fr
    have bp := hb p
    have ee : ((lj : Int) + (ln : Int)).toNat - lj = ln := by omega
    have ee2 : ((lj : Int) + (ln : Int)).toNat - p = lj + ln - p := by omega
    generalize hcons : decide (at' b (p : Int) / 32 % 2 = 1) = cons at hK hN
    simp (disch := omega) only [wu64, wu32, wu8, fdiv_nn, EO, ↓EP, EQ, EM, ↓reduceIte, Int.reduceAdd, Int.reduceEq, Int.reduceLE, Int.reduceLT, Int.reduceMul, Int.reduceNeg, Int.reducePow, Int.reduceSub, Int.reduceToNat, Nat.reduceAdd, Nat.reduceEqDiff, Nat.reduceLT, Nat.reduceLeDiff, Nat.reduceMul, reduceCtorEq, W_join, h6, h5, r0, hle, cp, ee, ee2, hcons]
    refine ⟨fun m1 => ?_, fun m1 => ?_⟩
    · have fW : Fr w1 (w1.drewN (1 + m1)) nob := Fr.drewN _ _ _
      have T1 := T.nb fW
      have F1 := T1.g.fr
      have hz1 : (w1.drewN (1 + m1)).heap.size = w1.heap.size := rfl
      generalize w1.drewN (1 + m1) = v1 at T1 F1 hz1 ⊢
      refine al_k (nums .u8 []) rfl fun w2 n2 => ?_
      have g2 := new_gw n2
      rw [hz1] at g2
      have c2 := cellf w2 (F1.nb g2.fr)
      simp (disch := omega) only [wu64, wu32, wu8, fdiv_nn, EO, ↓EP, EQ, EM, ↓reduceIte, Int.reduceAdd, Int.reduceEq, Int.reduceLE, Int.reduceLT, Int.reduceMul, Int.reduceNeg, Int.reducePow, Int.reduceSub, Int.reduceToNat, Nat.reduceAdd, Nat.reduceEqDiff, Nat.reduceLT, Nat.reduceLeDiff, Nat.reduceMul, reduceCtorEq, W_join, h6, h5, r0, hle, c2, ee, ee2, hcons]
      refine ⟨fun m => ?_, fun m => ?_⟩
      · have fm : Fr w2 (w2.drewN m) nob := Fr.drewN _ _ _
        have q2 := g2.step fm
        have fr2 := F1.nb q2.fr
        have hz2 : (w2.drewN m).heap.size = w2.heap.size := rfl
        generalize w2.drewN m = v2 at q2 fr2 hz2 ⊢
        refine app_ns q2.sl (l' := (b.drop lj).take ln) (by simp; omega) (((hr.nb fr2).subA c lj hc).take ln) (by simp; omega) (by omega) (N := ln) (by simp; omega) fun dA dc w3 a3 => ?_
        have g3 := q2.apd a3
        rw [List.nil_append] at g3
        have c3 := cellf w3 (F1.nb g3.fr)
        simp (disch := omega) only [wu64, wu32, wu8, fdiv_nn, EO, ↓EP, EQ, EM, ↓reduceIte, Int.reduceAdd, Int.reduceEq, Int.reduceLE, Int.reduceLT, Int.reduceMul, Int.reduceNeg, Int.reducePow, Int.reduceSub, Int.reduceToNat, Nat.reduceAdd, Nat.reduceEqDiff, Nat.reduceLT, Nat.reduceLeDiff, Nat.reduceMul, reduceCtorEq, W_join, h6, h5, r0, hle, c3, ee, ee2, hcons]
        intro m
        have fm : Fr w3 (w3.drewN m) nob := Fr.drewN _ _ _
        have q3 := g3.step fm
        have fr3 := F1.nb q3.fr
        have hz3 : (w3.drewN m).heap.size = w3.heap.size := rfl
        generalize w3.drewN m = v3 at q3 fr3 hz3 ⊢
        refine al_k (nums .u8 []) rfl fun w4 n4 => ?_
        have g4 := Two.newR q3 n4
        have c4 := cellf w4 (F1.nb g4.gd.fr)
        simp (disch := omega) only [wu64, wu32, wu8, fdiv_nn, EO, ↓EP, EQ, EM, ↓reduceIte, Int.reduceAdd, Int.reduceEq, Int.reduceLE, Int.reduceLT, Int.reduceMul, Int.reduceNeg, Int.reducePow, Int.reduceSub, Int.reduceToNat, Nat.reduceAdd, Nat.reduceEqDiff, Nat.reduceLT, Nat.reduceLeDiff, Nat.reduceMul, reduceCtorEq, W_join, h6, h5, r0, hle, c4, ee, ee2, hcons]
        intro m
        have fm : Fr w4 (w4.drewN m) nob := Fr.drewN _ _ _
        have q4 := g4.step fm
        have fr4 := F1.nb q4.gd.fr
        have hz4 : (w4.drewN m).heap.size = w4.heap.size := rfl
        generalize w4.drewN m = v4 at q4 fr4 hz4 ⊢
        refine app_ns q4.gr.sl (l' := (b.drop p).take (lj + ln - p)) (by simp; omega) (((hr.nb fr4).subA c p hc).take (lj + ln - p)) (by simp; omega) (by omega) (N := (lj + ln - p)) (by simp; omega) fun rA rc w5 a5 => ?_
        have g5 := q4.appR a5
        rw [List.nil_append] at g5
        have c5 := cellf w5 (F1.nb g5.gd.fr)
        simp (disch := omega) only [wu64, wu32, wu8, fdiv_nn, EO, ↓EP, EQ, EM, ↓reduceIte, Int.reduceAdd, Int.reduceEq, Int.reduceLE, Int.reduceLT, Int.reduceMul, Int.reduceNeg, Int.reducePow, Int.reduceSub, Int.reduceToNat, Nat.reduceAdd, Nat.reduceEqDiff, Nat.reduceLT, Nat.reduceLeDiff, Nat.reduceMul, reduceCtorEq, W_join, h6, h5, r0, hle, c5, ee, ee2, hcons]
        refine ⟨_, fillTlv _ _ _ _ _ _ _ _ _, ?_⟩
        simp (disch := omega) only [wu64, wu32, wu8, fdiv_nn, EO, ↓EP, EQ, EM, ↓reduceIte, Int.reduceAdd, Int.reduceEq, Int.reduceLE, Int.reduceLT, Int.reduceMul, Int.reduceNeg, Int.reducePow, Int.reduceSub, Int.reduceToNat, Nat.reduceAdd, Nat.reduceEqDiff, Nat.reduceLT, Nat.reduceLeDiff, Nat.reduceMul, reduceCtorEq, W_join, h6, h5, r0, hle, c5, hcons]
        intro m
        have fm : Fr w5 (w5.drewN m) nob := Fr.drewN _ _ _
        generalize w5.drewN m = v5 at fm ⊢
        refine bslTlv rfl rfl fun w8 n8 => ?_
        have f8 := fm.nb (n8.fr nob)
        have c8 := cellf w8 ((F1.nb g5.gd.fr).nb f8)
        simp (disch := omega) only [wu64, wu32, wu8, fdiv_nn, EO, ↓EP, EQ, EM, ↓reduceIte, Int.reduceAdd, Int.reduceEq, Int.reduceLE, Int.reduceLT, Int.reduceMul, Int.reduceNeg, Int.reducePow, Int.reduceSub, Int.reduceToNat, Nat.reduceAdd, Nat.reduceEqDiff, Nat.reduceLT, Nat.reduceLeDiff, Nat.reduceMul, reduceCtorEq, W_join, h6, h5, r0, hle, c8, hcons]
        intro m8
        have f9 := f8.nb (Fr.drewN w8 m8 nob)
        have T6 := (T1.nb g5.gd.fr).nb f9
        refine app_g T6.g.sl rfl rfl (tcells_one _ _ _ _ _ _ _) (n8.rdv.nb (Fr.drewN w8 m8 nob)) (by omega) (by omega) (by omega) fun X' w9 a9 => ?_
        have T7 := Tls.add2 (t := ⟨at' b (p : Int) / 64, tt, cons, (b.drop lj).take ln, (b.drop p).take (lj + ln - p)⟩) T1 g5 f9 a9
        have c9 := cellf w9 T7.g.fr
        simp (disch := omega) only [wu64, wu32, wu8, fdiv_nn, EO, ↓EP, EQ, EM, ↓reduceIte, Int.reduceAdd, Int.reduceEq, Int.reduceLE, Int.reduceLT, Int.reduceMul, Int.reduceNeg, Int.reducePow, Int.reduceSub, Int.reduceToNat, Nat.reduceAdd, Nat.reduceEqDiff, Nat.reduceLT, Nat.reduceLeDiff, Nat.reduceMul, reduceCtorEq, W_join, h6, r0, hle, c9, hcons]
        intro m9
        exact hN (b.length - (lj + ln)) _ _ (by omega) ⟨lj + ln, f, X', _, _, by simp (disch := omega) only [wu64, wu32, wu8, fdiv_nn, EO, ↓EP, EQ, EM, ↓reduceIte, Int.reduceAdd, Int.reduceEq, Int.reduceLE, Int.reduceLT, Int.reduceMul, Int.reduceNeg, Int.reducePow, Int.reduceSub, Int.reduceToNat, Nat.reduceAdd, Nat.reduceEqDiff, Nat.reduceLT, Nat.reduceLeDiff, Nat.reduceMul, reduceCtorEq, Int.natCast_add], by simp (disch := omega) only [wu64, wu32, wu8, fdiv_nn, EO, ↓EP, EQ, EM, ↓reduceIte, Int.reduceAdd, Int.reduceEq, Int.reduceLE, Int.reduceLT, Int.reduceMul, Int.reduceNeg, Int.reducePow, Int.reduceSub, Int.reduceToNat, Nat.reduceAdd, Nat.reduceEqDiff, Nat.reduceLT, Nat.reduceLeDiff, Nat.reduceMul, reduceCtorEq], by omega, rfl, by omega, by simp; omega, T7.nb (Fr.drewN w9 m9 nob), rfl⟩
      · have fm : Fr w2 (w2.drewN m) nob := Fr.drewN _ _ _
        have q2 := g2.step fm
        have fr2 := F1.nb q2.fr
        have hz2 : (w2.drewN m).heap.size = w2.heap.size := rfl
        generalize w2.drewN m = v2 at q2 fr2 hz2 ⊢
        refine al_k (nums .u8 []) rfl fun w3 n3 => ?_
        have g3 := Two.newR q2 n3
        have c3 := cellf w3 (F1.nb g3.gd.fr)
        simp (disch := omega) only [wu64, wu32, wu8, fdiv_nn, EO, ↓EP, EQ, EM, ↓reduceIte, Int.reduceAdd, Int.reduceEq, Int.reduceLE, Int.reduceLT, Int.reduceMul, Int.reduceNeg, Int.reducePow, Int.reduceSub, Int.reduceToNat, Nat.reduceAdd, Nat.reduceEqDiff, Nat.reduceLT, Nat.reduceLeDiff, Nat.reduceMul, reduceCtorEq, W_join, h6, h5, r0, hle, c3, ee, ee2, hcons]
        intro m
        have fm : Fr w3 (w3.drewN m) nob := Fr.drewN _ _ _
        have q3 := g3.step fm
        have fr3 := F1.nb q3.gd.fr
        have hz3 : (w3.drewN m).heap.size = w3.heap.size := rfl
        generalize w3.drewN m = v3 at q3 fr3 hz3 ⊢
        refine app_ns q3.gd.sl (l' := (b.drop lj).take ln) (by simp; omega) (((hr.nb fr3).subA c lj hc).take ln) (by simp; omega) (by omega) (N := ln) (by simp; omega) fun dA dc w4 a4 => ?_
        have g4 := q3.appD a4
        rw [List.nil_append] at g4
        have c4 := cellf w4 (F1.nb g4.gd.fr)
        simp (disch := omega) only [wu64, wu32, wu8, fdiv_nn, EO, ↓EP, EQ, EM, ↓reduceIte, Int.reduceAdd, Int.reduceEq, Int.reduceLE, Int.reduceLT, Int.reduceMul, Int.reduceNeg, Int.reducePow, Int.reduceSub, Int.reduceToNat, Nat.reduceAdd, Nat.reduceEqDiff, Nat.reduceLT, Nat.reduceLeDiff, Nat.reduceMul, reduceCtorEq, W_join, h6, h5, r0, hle, c4, ee, ee2, hcons]
        intro m
        have fm : Fr w4 (w4.drewN m) nob := Fr.drewN _ _ _
        have q4 := g4.step fm
        have fr4 := F1.nb q4.gd.fr
        have hz4 : (w4.drewN m).heap.size = w4.heap.size := rfl
        generalize w4.drewN m = v4 at q4 fr4 hz4 ⊢
        refine app_ns q4.gr.sl (l' := (b.drop p).take (lj + ln - p)) (by simp; omega) (((hr.nb fr4).subA c p hc).take (lj + ln - p)) (by simp; omega) (by omega) (N := (lj + ln - p)) (by simp; omega) fun rA rc w5 a5 => ?_
        have g5 := q4.appR a5
        rw [List.nil_append] at g5
        have c5 := cellf w5 (F1.nb g5.gd.fr)
        simp (disch := omega) only [wu64, wu32, wu8, fdiv_nn, EO, ↓EP, EQ, EM, ↓reduceIte, Int.reduceAdd, Int.reduceEq, Int.reduceLE, Int.reduceLT, Int.reduceMul, Int.reduceNeg, Int.reducePow, Int.reduceSub, Int.reduceToNat, Nat.reduceAdd, Nat.reduceEqDiff, Nat.reduceLT, Nat.reduceLeDiff, Nat.reduceMul, reduceCtorEq, W_join, h6, h5, r0, hle, c5, ee, ee2, hcons]
        refine ⟨_, fillTlv _ _ _ _ _ _ _ _ _, ?_⟩
        simp (disch := omega) only [wu64, wu32, wu8, fdiv_nn, EO, ↓EP, EQ, EM, ↓reduceIte, Int.reduceAdd, Int.reduceEq, Int.reduceLE, Int.reduceLT, Int.reduceMul, Int.reduceNeg, Int.reducePow, Int.reduceSub, Int.reduceToNat, Nat.reduceAdd, Nat.reduceEqDiff, Nat.reduceLT, Nat.reduceLeDiff, Nat.reduceMul, reduceCtorEq, W_join, h6, h5, r0, hle, c5, hcons]
        intro m
        have fm : Fr w5 (w5.drewN m) nob := Fr.drewN _ _ _
        generalize w5.drewN m = v5 at fm ⊢
        refine bslTlv rfl rfl fun w8 n8 => ?_
        have f8 := fm.nb (n8.fr nob)
        have c8 := cellf w8 ((F1.nb g5.gd.fr).nb f8)
        simp (disch := omega) only [wu64, wu32, wu8, fdiv_nn, EO, ↓EP, EQ, EM, ↓reduceIte, Int.reduceAdd, Int.reduceEq, Int.reduceLE, Int.reduceLT, Int.reduceMul, Int.reduceNeg, Int.reducePow, Int.reduceSub, Int.reduceToNat, Nat.reduceAdd, Nat.reduceEqDiff, Nat.reduceLT, Nat.reduceLeDiff, Nat.reduceMul, reduceCtorEq, W_join, h6, h5, r0, hle, c8, hcons]
        intro m8
        have f9 := f8.nb (Fr.drewN w8 m8 nob)
        have T6 := (T1.nb g5.gd.fr).nb f9
        refine app_g T6.g.sl rfl rfl (tcells_one _ _ _ _ _ _ _) (n8.rdv.nb (Fr.drewN w8 m8 nob)) (by omega) (by omega) (by omega) fun X' w9 a9 => ?_
        have T7 := Tls.add2 (t := ⟨at' b (p : Int) / 64, tt, cons, (b.drop lj).take ln, (b.drop p).take (lj + ln - p)⟩) T1 g5 f9 a9
        have c9 := cellf w9 T7.g.fr
        simp (disch := omega) only [wu64, wu32, wu8, fdiv_nn, EO, ↓EP, EQ, EM, ↓reduceIte, Int.reduceAdd, Int.reduceEq, Int.reduceLE, Int.reduceLT, Int.reduceMul, Int.reduceNeg, Int.reducePow, Int.reduceSub, Int.reduceToNat, Nat.reduceAdd, Nat.reduceEqDiff, Nat.reduceLT, Nat.reduceLeDiff, Nat.reduceMul, reduceCtorEq, W_join, h6, r0, hle, c9, hcons]
        intro m9
        exact hN (b.length - (lj + ln)) _ _ (by omega) ⟨lj + ln, f, X', _, _, by simp (disch := omega) only [wu64, wu32, wu8, fdiv_nn, EO, ↓EP, EQ, EM, ↓reduceIte, Int.reduceAdd, Int.reduceEq, Int.reduceLE, Int.reduceLT, Int.reduceMul, Int.reduceNeg, Int.reducePow, Int.reduceSub, Int.reduceToNat, Nat.reduceAdd, Nat.reduceEqDiff, Nat.reduceLT, Nat.reduceLeDiff, Nat.reduceMul, reduceCtorEq, Int.natCast_add], by simp (disch := omega) only [wu64, wu32, wu8, fdiv_nn, EO, ↓EP, EQ, EM, ↓reduceIte, Int.reduceAdd, Int.reduceEq, Int.reduceLE, Int.reduceLT, Int.reduceMul, Int.reduceNeg, Int.reducePow, Int.reduceSub, Int.reduceToNat, Nat.reduceAdd, Nat.reduceEqDiff, Nat.reduceLT, Nat.reduceLeDiff, Nat.reduceMul, reduceCtorEq], by omega, rfl, by omega, by simp; omega, T7.nb (Fr.drewN w9 m9 nob), rfl⟩
    · have fW : Fr w1 (w1.drewN (1 + m1)) nob := Fr.drewN _ _ _
      have T1 := T.nb fW
      have F1 := T1.g.fr
      have hz1 : (w1.drewN (1 + m1)).heap.size = w1.heap.size := rfl
      generalize w1.drewN (1 + m1) = v1 at T1 F1 hz1 ⊢
      refine al_k (nums .u8 []) rfl fun w2 n2 => ?_
      have g2 := new_gw n2
      rw [hz1] at g2
      have c2 := cellf w2 (F1.nb g2.fr)
      simp (disch := omega) only [wu64, wu32, wu8, fdiv_nn, EO, ↓EP, EQ, EM, ↓reduceIte, Int.reduceAdd, Int.reduceEq, Int.reduceLE, Int.reduceLT, Int.reduceMul, Int.reduceNeg, Int.reducePow, Int.reduceSub, Int.reduceToNat, Nat.reduceAdd, Nat.reduceEqDiff, Nat.reduceLT, Nat.reduceLeDiff, Nat.reduceMul, reduceCtorEq, W_join, h6, h5, r0, hle, c2, ee, ee2, hcons]
      intro m
      have fm : Fr w2 (w2.drewN m) nob := Fr.drewN _ _ _
      have q2 := g2.step fm
      have fr2 := F1.nb q2.fr
      have hz2 : (w2.drewN m).heap.size = w2.heap.size := rfl
      generalize w2.drewN m = v2 at q2 fr2 hz2 ⊢
      refine al_k (nums .u8 []) rfl fun w3 n3 => ?_
      have g3 := Two.newD q2 n3
      have c3 := cellf w3 (F1.nb g3.gd.fr)
      simp (disch := omega) only [wu64, wu32, wu8, fdiv_nn, EO, ↓EP, EQ, EM, ↓reduceIte, Int.reduceAdd, Int.reduceEq, Int.reduceLE, Int.reduceLT, Int.reduceMul, Int.reduceNeg, Int.reducePow, Int.reduceSub, Int.reduceToNat, Nat.reduceAdd, Nat.reduceEqDiff, Nat.reduceLT, Nat.reduceLeDiff, Nat.reduceMul, reduceCtorEq, W_join, h6, h5, r0, hle, c3, ee, ee2, hcons]
      intro m
      have fm : Fr w3 (w3.drewN m) nob := Fr.drewN _ _ _
      have q3 := g3.step fm
      have fr3 := F1.nb q3.gd.fr
      have hz3 : (w3.drewN m).heap.size = w3.heap.size := rfl
      generalize w3.drewN m = v3 at q3 fr3 hz3 ⊢
      refine app_ns q3.gd.sl (l' := (b.drop lj).take ln) (by simp; omega) (((hr.nb fr3).subA c lj hc).take ln) (by simp; omega) (by omega) (N := ln) (by simp; omega) fun dA dc w4 a4 => ?_
      have g4 := q3.appD a4
      rw [List.nil_append] at g4
      have c4 := cellf w4 (F1.nb g4.gd.fr)
      simp (disch := omega) only [wu64, wu32, wu8, fdiv_nn, EO, ↓EP, EQ, EM, ↓reduceIte, Int.reduceAdd, Int.reduceEq, Int.reduceLE, Int.reduceLT, Int.reduceMul, Int.reduceNeg, Int.reducePow, Int.reduceSub, Int.reduceToNat, Nat.reduceAdd, Nat.reduceEqDiff, Nat.reduceLT, Nat.reduceLeDiff, Nat.reduceMul, reduceCtorEq, W_join, h6, h5, r0, hle, c4, ee, ee2, hcons]
      intro m
      have fm : Fr w4 (w4.drewN m) nob := Fr.drewN _ _ _
      have q4 := g4.step fm
      have fr4 := F1.nb q4.gd.fr
      have hz4 : (w4.drewN m).heap.size = w4.heap.size := rfl
      generalize w4.drewN m = v4 at q4 fr4 hz4 ⊢
      refine app_ns q4.gr.sl (l' := (b.drop p).take (lj + ln - p)) (by simp; omega) (((hr.nb fr4).subA c p hc).take (lj + ln - p)) (by simp; omega) (by omega) (N := (lj + ln - p)) (by simp; omega) fun rA rc w5 a5 => ?_
      have g5 := q4.appR a5
      rw [List.nil_append] at g5
      have c5 := cellf w5 (F1.nb g5.gd.fr)
      simp (disch := omega) only [wu64, wu32, wu8, fdiv_nn, EO, ↓EP, EQ, EM, ↓reduceIte, Int.reduceAdd, Int.reduceEq, Int.reduceLE, Int.reduceLT, Int.reduceMul, Int.reduceNeg, Int.reducePow, Int.reduceSub, Int.reduceToNat, Nat.reduceAdd, Nat.reduceEqDiff, Nat.reduceLT, Nat.reduceLeDiff, Nat.reduceMul, reduceCtorEq, W_join, h6, h5, r0, hle, c5, ee, ee2, hcons]
      refine ⟨_, fillTlv _ _ _ _ _ _ _ _ _, ?_⟩
      simp (disch := omega) only [wu64, wu32, wu8, fdiv_nn, EO, ↓EP, EQ, EM, ↓reduceIte, Int.reduceAdd, Int.reduceEq, Int.reduceLE, Int.reduceLT, Int.reduceMul, Int.reduceNeg, Int.reducePow, Int.reduceSub, Int.reduceToNat, Nat.reduceAdd, Nat.reduceEqDiff, Nat.reduceLT, Nat.reduceLeDiff, Nat.reduceMul, reduceCtorEq, W_join, h6, h5, r0, hle, c5, hcons]
      intro m
      have fm : Fr w5 (w5.drewN m) nob := Fr.drewN _ _ _
      generalize w5.drewN m = v5 at fm ⊢
      refine bslTlv rfl rfl fun w8 n8 => ?_
      have f8 := fm.nb (n8.fr nob)
      have c8 := cellf w8 ((F1.nb g5.gd.fr).nb f8)
      simp (disch := omega) only [wu64, wu32, wu8, fdiv_nn, EO, ↓EP, EQ, EM, ↓reduceIte, Int.reduceAdd, Int.reduceEq, Int.reduceLE, Int.reduceLT, Int.reduceMul, Int.reduceNeg, Int.reducePow, Int.reduceSub, Int.reduceToNat, Nat.reduceAdd, Nat.reduceEqDiff, Nat.reduceLT, Nat.reduceLeDiff, Nat.reduceMul, reduceCtorEq, W_join, h6, h5, r0, hle, c8, hcons]
      intro m8
      have f9 := f8.nb (Fr.drewN w8 m8 nob)
      have T6 := (T1.nb g5.gd.fr).nb f9
      refine app_g T6.g.sl rfl rfl (tcells_one _ _ _ _ _ _ _) (n8.rdv.nb (Fr.drewN w8 m8 nob)) (by omega) (by omega) (by omega) fun X' w9 a9 => ?_
      have T7 := Tls.add2 (t := ⟨at' b (p : Int) / 64, tt, cons, (b.drop lj).take ln, (b.drop p).take (lj + ln - p)⟩) T1 g5 f9 a9
      have c9 := cellf w9 T7.g.fr
      simp (disch := omega) only [wu64, wu32, wu8, fdiv_nn, EO, ↓EP, EQ, EM, ↓reduceIte, Int.reduceAdd, Int.reduceEq, Int.reduceLE, Int.reduceLT, Int.reduceMul, Int.reduceNeg, Int.reducePow, Int.reduceSub, Int.reduceToNat, Nat.reduceAdd, Nat.reduceEqDiff, Nat.reduceLT, Nat.reduceLeDiff, Nat.reduceMul, reduceCtorEq, W_join, h6, r0, hle, c9, hcons]
      intro m9
      exact hN (b.length - (lj + ln)) _ _ (by omega) ⟨lj + ln, f, X', _, _, by simp (disch := omega) only [wu64, wu32, wu8, fdiv_nn, EO, ↓EP, EQ, EM, ↓reduceIte, Int.reduceAdd, Int.reduceEq, Int.reduceLE, Int.reduceLT, Int.reduceMul, Int.reduceNeg, Int.reducePow, Int.reduceSub, Int.reduceToNat, Nat.reduceAdd, Nat.reduceEqDiff, Nat.reduceLT, Nat.reduceLeDiff, Nat.reduceMul, reduceCtorEq, Int.natCast_add], by simp (disch := omega) only [wu64, wu32, wu8, fdiv_nn, EO, ↓EP, EQ, EM, ↓reduceIte, Int.reduceAdd, Int.reduceEq, Int.reduceLE, Int.reduceLT, Int.reduceMul, Int.reduceNeg, Int.reducePow, Int.reduceSub, Int.reduceToNat, Nat.reduceAdd, Nat.reduceEqDiff, Nat.reduceLT, Nat.reduceLeDiff, Nat.reduceMul, reduceCtorEq], by omega, rfl, by omega, by simp; omega, T7.nb (Fr.drewN w9 m9 nob), rfl⟩
  · have hpl' : p = b.length := by omega
    subst hpl'
    rw [splitGo, if_pos (Nat.le_refl _)] at hK
    simp (disch := omega) only [wu64, wu32, wu8, fdiv_nn, EO, ↓EP, EQ, EM, ↓reduceIte, Int.reduceAdd, Int.reduceEq, Int.reduceLE, Int.reduceLT, Int.reduceMul, Int.reduceNeg, Int.reducePow, Int.reduceSub, Int.reduceToNat, Nat.reduceAdd, Nat.reduceEqDiff, Nat.reduceLT, Nat.reduceLeDiff, Nat.reduceMul, reduceCtorEq, h6, h5, r0]
    exact hK _ vs _ T
end Go.Proofs.YtcflokckfjkdpaaDoor.Der

/- Elements that are laid, walked: the program's. -/
set_option linter.unusedVariables false
set_option linter.unusedSimpArgs false
namespace Go.Proofs.YtcflokckfjkdpaaDoor.Der
open Go Go.RowKit Go.Proofs Go.Proofs.YtcflokckfjkdpaaDoor.Eng Go.Proofs.YtcflokckfjkdpaaDoor.Code
set_option maxRecDepth 100000
attribute [local irreducible] callK S.W opsW scrW scrT

theorem cells_sl8 : (List.replicate 3 (Value.int .u8 0)) = nums .u8 (List.replicate 3 0) := rfl
set_option maxHeartbeats 4000000 in
theorem put_vw {w : World} {cls tag : Int} {cons : Bool} {X : Value} {ls : List (List Int)} (hX : LV w X ls) (hcl : -9223372036854775808 ≤ cls ∧ cls ≤ 9223372036854775807) (htg : -9223372036854775808 ≤ tag ∧ tag ≤ 9223372036854775807) (h63 : ls.length ≤ 9223372036854775807)
    (hl63 : ∀ l ∈ ls, l.length ≤ 9223372036854775807) (K : Value → World → Prop)
    (hK : ∀ v' w', Gw .u8 w w' v' (putR cls tag cons ls).1 → K (pr2 v' (putR cls tag cons ls).2) w') : callK Tryd.prog 31 [.int .i64 cls, .int .i64 tag, .bool cons, X] w K := by
  have hX0 := hX.ex
  obtain ⟨A, c, vs, rfl, hc, _⟩ := hX0
  refine call_of Tryd.func31 Code.h31 (by simp [Code.c31]) ?_
  unfold putR at hK
  by_cases hbad : cls < 0 ∨ 3 < cls ∨ tag < 0 ∨ 268435455 < tag ∨ (cls = 0 ∧ tag = 0)
  · rw [if_pos hbad] at hK
    have fin := hK _ w (Gw.nil .u8 w)
    by_cases b1 : cls < 0
    · simp (disch := omega) only [wu64, wu32, wu8, fdiv_nn, EO, ↓EP, EQ, EM, ↓reduceIte, Int.reduceAdd, Int.reduceEq, Int.reduceLE, Int.reduceLT, Int.reduceMul, Int.reduceNeg, Int.reducePow, Int.reduceSub, Int.reduceToNat, Nat.reduceAdd, Nat.reduceEqDiff, Nat.reduceLT, Nat.reduceLeDiff, Nat.reduceMul, reduceCtorEq, Code.c31]
      exact fin
    by_cases b2 : 3 < cls
    · simp (disch := omega) only [wu64, wu32, wu8, fdiv_nn, EO, ↓EP, EQ, EM, ↓reduceIte, Int.reduceAdd, Int.reduceEq, Int.reduceLE, Int.reduceLT, Int.reduceMul, Int.reduceNeg, Int.reducePow, Int.reduceSub, Int.reduceToNat, Nat.reduceAdd, Nat.reduceEqDiff, Nat.reduceLT, Nat.reduceLeDiff, Nat.reduceMul, reduceCtorEq, Code.c31]
      exact fin
    by_cases b3 : tag < 0
    · simp (disch := omega) only [wu64, wu32, wu8, fdiv_nn, EO, ↓EP, EQ, EM, ↓reduceIte, Int.reduceAdd, Int.reduceEq, Int.reduceLE, Int.reduceLT, Int.reduceMul, Int.reduceNeg, Int.reducePow, Int.reduceSub, Int.reduceToNat, Nat.reduceAdd, Nat.reduceEqDiff, Nat.reduceLT, Nat.reduceLeDiff, Nat.reduceMul, reduceCtorEq, Code.c31]
      exact fin
    by_cases b4 : 268435455 < tag
    · simp (disch := omega) only [wu64, wu32, wu8, fdiv_nn, EO, ↓EP, EQ, EM, ↓reduceIte, Int.reduceAdd, Int.reduceEq, Int.reduceLE, Int.reduceLT, Int.reduceMul, Int.reduceNeg, Int.reducePow, Int.reduceSub, Int.reduceToNat, Nat.reduceAdd, Nat.reduceEqDiff, Nat.reduceLT, Nat.reduceLeDiff, Nat.reduceMul, reduceCtorEq, Code.c31]
      exact fin
    have b5 : cls = 0 ∧ tag = 0 := by omega
    rw [b5.1, b5.2]
    simp (disch := omega) only [wu64, wu32, wu8, fdiv_nn, EO, ↓EP, EQ, EM, ↓reduceIte, Int.reduceAdd, Int.reduceEq, Int.reduceLE, Int.reduceLT, Int.reduceMul, Int.reduceNeg, Int.reducePow, Int.reduceSub, Int.reduceToNat, Nat.reduceAdd, Nat.reduceEqDiff, Nat.reduceLT, Nat.reduceLeDiff, Nat.reduceMul, reduceCtorEq, Code.c31]
    exact fin
  rw [if_neg hbad] at hK
  have hne : (cls + tag = 0) = False := eq_false (by omega)
  have hc0 : 0 ≤ cls ∧ cls ≤ 3 ∧ 0 ≤ tag ∧ tag ≤ 268435455 := by omega
  simp (disch := omega) only [wu64, wu32, wu8, fdiv_nn, EO, ↓EP, EQ, EM, ↓reduceIte, Int.reduceAdd, Int.reduceEq, Int.reduceLE, Int.reduceLT, Int.reduceMul, Int.reduceNeg, Int.reducePow, Int.reduceSub, Int.reduceToNat, Nat.reduceAdd, Nat.reduceEqDiff, Nat.reduceLT, Nat.reduceLeDiff, Nat.reduceMul, reduceCtorEq, Code.c31, hne]
  refine loop_inv (fun t ρ w' => w' = w ∧ ∃ j : Nat, ρ 40 = .int .i64 j ∧ ρ 10 = .int .i64 (tot ls j : Int) ∧ j ≤ ls.length ∧ t = ls.length - j ∧ tot ls j ≤ 16777216) ls.length ⟨rfl, 0, by simp (disch := omega) only [wu64, wu32, wu8, fdiv_nn, EO, ↓EP, EQ, EM, ↓reduceIte, Int.reduceAdd, Int.reduceEq, Int.reduceLE, Int.reduceLT, Int.reduceMul, Int.reduceNeg, Int.reducePow, Int.reduceSub, Int.reduceToNat, Nat.reduceAdd, Nat.reduceEqDiff, Nat.reduceLT, Nat.reduceLeDiff, Nat.reduceMul, reduceCtorEq], by simp (disch := omega) only [wu64, wu32, wu8, fdiv_nn, EO, ↓EP, EQ, EM, ↓reduceIte, Int.reduceAdd, Int.reduceEq, Int.reduceLE, Int.reduceLT, Int.reduceMul, Int.reduceNeg, Int.reducePow, Int.reduceSub, Int.reduceToNat, Nat.reduceAdd, Nat.reduceEqDiff, Nat.reduceLT, Nat.reduceLeDiff, Nat.reduceMul, reduceCtorEq]; rfl, by omega, by omega, by simp [tot]⟩ ?_
  rintro t ρ w' hf ⟨rfl, j, h40, h10, hj, rfl, htj⟩ N hN
  have r0 : ρ 0 = .int .i64 cls := by rw [hf 0 rfl]; simp (disch := omega) only [wu64, wu32, wu8, fdiv_nn, EO, ↓EP, EQ, EM, ↓reduceIte, Int.reduceAdd, Int.reduceEq, Int.reduceLE, Int.reduceLT, Int.reduceMul, Int.reduceNeg, Int.reducePow, Int.reduceSub, Int.reduceToNat, Nat.reduceAdd, Nat.reduceEqDiff, Nat.reduceLT, Nat.reduceLeDiff, Nat.reduceMul, reduceCtorEq]
  have r1 : ρ 1 = .int .i64 tag := by rw [hf 1 rfl]; simp (disch := omega) only [wu64, wu32, wu8, fdiv_nn, EO, ↓EP, EQ, EM, ↓reduceIte, Int.reduceAdd, Int.reduceEq, Int.reduceLE, Int.reduceLT, Int.reduceMul, Int.reduceNeg, Int.reducePow, Int.reduceSub, Int.reduceToNat, Nat.reduceAdd, Nat.reduceEqDiff, Nat.reduceLT, Nat.reduceLeDiff, Nat.reduceMul, reduceCtorEq]
  have r2 : ρ 2 = .bool cons := by rw [hf 2 rfl]; simp (disch := omega) only [wu64, wu32, wu8, fdiv_nn, EO, ↓EP, EQ, EM, ↓reduceIte, Int.reduceAdd, Int.reduceEq, Int.reduceLE, Int.reduceLT, Int.reduceMul, Int.reduceNeg, Int.reducePow, Int.reduceSub, Int.reduceToNat, Nat.reduceAdd, Nat.reduceEqDiff, Nat.reduceLT, Nat.reduceLeDiff, Nat.reduceMul, reduceCtorEq]
  have r3 : ρ 3 = .slice A ls.length c := by rw [hf 3 rfl]; simp (disch := omega) only [wu64, wu32, wu8, fdiv_nn, EO, ↓EP, EQ, EM, ↓reduceIte, Int.reduceAdd, Int.reduceEq, Int.reduceLE, Int.reduceLT, Int.reduceMul, Int.reduceNeg, Int.reducePow, Int.reduceSub, Int.reduceToNat, Nat.reduceAdd, Nat.reduceEqDiff, Nat.reduceLT, Nat.reduceLeDiff, Nat.reduceMul, reduceCtorEq]
  have r38 : ρ 38 = .slice A ls.length c := by rw [hf 38 rfl]; simp (disch := omega) only [wu64, wu32, wu8, fdiv_nn, EO, ↓EP, EQ, EM, ↓reduceIte, Int.reduceAdd, Int.reduceEq, Int.reduceLE, Int.reduceLT, Int.reduceMul, Int.reduceNeg, Int.reducePow, Int.reduceSub, Int.reduceToNat, Nat.reduceAdd, Nat.reduceEqDiff, Nat.reduceLT, Nat.reduceLeDiff, Nat.reduceMul, reduceCtorEq]
  have r39 : ρ 39 = .int .i64 ls.length := by rw [hf 39 rfl]; simp (disch := omega) only [wu64, wu32, wu8, fdiv_nn, EO, ↓EP, EQ, EM, ↓reduceIte, Int.reduceAdd, Int.reduceEq, Int.reduceLE, Int.reduceLT, Int.reduceMul, Int.reduceNeg, Int.reducePow, Int.reduceSub, Int.reduceToNat, Nat.reduceAdd, Nat.reduceEqDiff, Nat.reduceLT, Nat.reduceLeDiff, Nat.reduceMul, reduceCtorEq]
  clear hf
  by_cases hjl : (j : Int) < (ls.length : Int)
  · obtain ⟨ad, dA, dc, rfl, _, cj, hdc, _⟩ := hX.at (i := j) (by omega)
    have hlj := hl63 ls[j] (List.getElem_mem (by omega))
    have hts := tot_succ (ls := ls) (j := j) (by omega)
    by_cases hbig : 16777216 - (tot ls j : Int) < (ls[j].length : Int)
    · have htl := tot_le ls (j + 1)
      rw [if_pos (by omega)] at hK
      simp (disch := omega) only [wu64, wu32, wu8, fdiv_nn, EO, ↓EP, EQ, EM, ↓reduceIte, Int.reduceAdd, Int.reduceEq, Int.reduceLE, Int.reduceLT, Int.reduceMul, Int.reduceNeg, Int.reducePow, Int.reduceSub, Int.reduceToNat, Nat.reduceAdd, Nat.reduceEqDiff, Nat.reduceLT, Nat.reduceLeDiff, Nat.reduceMul, reduceCtorEq, W_join, h40, h10, r38, r39, cj]
      exact hK _ w' (Gw.nil .u8 w')
    · simp (disch := omega) only [wu64, wu32, wu8, fdiv_nn, EO, ↓EP, EQ, EM, ↓reduceIte, Int.reduceAdd, Int.reduceEq, Int.reduceLE, Int.reduceLT, Int.reduceMul, Int.reduceNeg, Int.reducePow, Int.reduceSub, Int.reduceToNat, Nat.reduceAdd, Nat.reduceEqDiff, Nat.reduceLT, Nat.reduceLeDiff, Nat.reduceMul, reduceCtorEq, W_join, h40, h10, r38, r39, cj]
      exact hN (ls.length - (j + 1)) _ _ (by omega) ⟨rfl, j + 1, by simp (disch := omega) only [wu64, wu32, wu8, fdiv_nn, EO, ↓EP, EQ, EM, ↓reduceIte, Int.reduceAdd, Int.reduceEq, Int.reduceLE, Int.reduceLT, Int.reduceMul, Int.reduceNeg, Int.reducePow, Int.reduceSub, Int.reduceToNat, Nat.reduceAdd, Nat.reduceEqDiff, Nat.reduceLT, Nat.reduceLeDiff, Nat.reduceMul, reduceCtorEq, h40, Int.natCast_add], by simp (disch := omega) only [wu64, wu32, wu8, fdiv_nn, EO, ↓EP, EQ, EM, ↓reduceIte, Int.reduceAdd, Int.reduceEq, Int.reduceLE, Int.reduceLT, Int.reduceMul, Int.reduceNeg, Int.reducePow, Int.reduceSub, Int.reduceToNat, Nat.reduceAdd, Nat.reduceEqDiff, Nat.reduceLT, Nat.reduceLeDiff, Nat.reduceMul, reduceCtorEq, h10, hts, Int.natCast_add], by omega, rfl, by omega⟩
  have hje : j = ls.length := by omega
  subst hje
  have hta := tot_all ls
  rw [hta] at h10 htj
  generalize hn : (ls.map List.length).sum = n at hK h10 htj hta
  rw [if_neg (by omega)] at hK
  clear hN
  have e6 : IntKind.u8.wrap (cls * 2 ^ 6) = cls * 64 := by
    rw [show (2 : Int) ^ 6 = 64 by decide]; exact wu8 (by omega) (by omega)
  have e6' : IntKind.i64.wrap (cls * 2 ^ 6) = cls * 2 ^ 6 := by
    rw [show (2 : Int) ^ 6 = 64 by decide]; exact w64 (by omega) (by omega)
  simp (disch := omega) only [wu64, wu32, wu8, fdiv_nn, EO, ↓EP, EQ, EM, ↓reduceIte, Int.reduceAdd, Int.reduceEq, Int.reduceLE, Int.reduceLT, Int.reduceMul, Int.reduceNeg, Int.reducePow, Int.reduceSub, Int.reduceToNat, Nat.reduceAdd, Nat.reduceEqDiff, Nat.reduceLT, Nat.reduceLeDiff, Nat.reduceMul, reduceCtorEq, W_joinT, h40, h10, r0, r38, r39, e6, e6']
  refine join_cut (fun ρ' w2 => w2 = w' ∧ ρ' 13 = .int .u8 (firstR cls cons)) ?_ ?_
  · intro N1 hN1
    cases cons
    · simp (disch := omega) only [wu64, wu32, wu8, fdiv_nn, EO, ↓EP, EQ, EM, ↓reduceIte, Int.reduceAdd, Int.reduceEq, Int.reduceLE, Int.reduceLT, Int.reduceMul, Int.reduceNeg, Int.reducePow, Int.reduceSub, Int.reduceToNat, Nat.reduceAdd, Nat.reduceEqDiff, Nat.reduceLT, Nat.reduceLeDiff, Nat.reduceMul, reduceCtorEq, r2]
      exact hN1 _ _ ⟨rfl, by simp (disch := omega) only [wu64, wu32, wu8, fdiv_nn, EO, ↓EP, EQ, EM, ↓reduceIte, Int.reduceAdd, Int.reduceEq, Int.reduceLE, Int.reduceLT, Int.reduceMul, Int.reduceNeg, Int.reducePow, Int.reduceSub, Int.reduceToNat, Nat.reduceAdd, Nat.reduceEqDiff, Nat.reduceLT, Nat.reduceLeDiff, Nat.reduceMul, reduceCtorEq, e6, e6']; unfold firstR; simp⟩
    · have eo := cls_or hc0.1 hc0.2.1
      simp (disch := omega) only [wu64, wu32, wu8, fdiv_nn, EO, ↓EP, EQ, EM, ↓reduceIte, Int.reduceAdd, Int.reduceEq, Int.reduceLE, Int.reduceLT, Int.reduceMul, Int.reduceNeg, Int.reducePow, Int.reduceSub, Int.reduceToNat, Nat.reduceAdd, Nat.reduceEqDiff, Nat.reduceLT, Nat.reduceLeDiff, Nat.reduceMul, reduceCtorEq, r2, e6, e6', eo]
      exact hN1 _ _ ⟨rfl, by simp (disch := omega) only [wu64, wu32, wu8, fdiv_nn, EO, ↓EP, EQ, EM, ↓reduceIte, Int.reduceAdd, Int.reduceEq, Int.reduceLE, Int.reduceLT, Int.reduceMul, Int.reduceNeg, Int.reducePow, Int.reduceSub, Int.reduceToNat, Nat.reduceAdd, Nat.reduceEqDiff, Nat.reduceLT, Nat.reduceLeDiff, Nat.reduceMul, reduceCtorEq, e6, e6', eo]; unfold firstR; simp⟩
  rintro ρ1 w1 hf1 ⟨rfl, g13⟩
  have q1 : ρ1 1 = .int .i64 tag := by rw [hf1 1 rfl]; simp (disch := omega) only [wu64, wu32, wu8, fdiv_nn, EO, ↓EP, EQ, EM, ↓reduceIte, Int.reduceAdd, Int.reduceEq, Int.reduceLE, Int.reduceLT, Int.reduceMul, Int.reduceNeg, Int.reducePow, Int.reduceSub, Int.reduceToNat, Nat.reduceAdd, Nat.reduceEqDiff, Nat.reduceLT, Nat.reduceLeDiff, Nat.reduceMul, reduceCtorEq, r1]
  have q3 : ρ1 3 = .slice A ls.length c := by rw [hf1 3 rfl]; simp (disch := omega) only [wu64, wu32, wu8, fdiv_nn, EO, ↓EP, EQ, EM, ↓reduceIte, Int.reduceAdd, Int.reduceEq, Int.reduceLE, Int.reduceLT, Int.reduceMul, Int.reduceNeg, Int.reducePow, Int.reduceSub, Int.reduceToNat, Nat.reduceAdd, Nat.reduceEqDiff, Nat.reduceLT, Nat.reduceLeDiff, Nat.reduceMul, reduceCtorEq, r3]
  have q10 : ρ1 10 = .int .i64 n := by rw [hf1 10 rfl]; simp (disch := omega) only [wu64, wu32, wu8, fdiv_nn, EO, ↓EP, EQ, EM, ↓reduceIte, Int.reduceAdd, Int.reduceEq, Int.reduceLE, Int.reduceLT, Int.reduceMul, Int.reduceNeg, Int.reducePow, Int.reduceSub, Int.reduceToNat, Nat.reduceAdd, Nat.reduceEqDiff, Nat.reduceLT, Nat.reduceLeDiff, Nat.reduceMul, reduceCtorEq, h10]
  clear hf1
  have hF := firstR_bd (cons := cons) hc0.1 hc0.2.1
  rw [headR_eq] at hK
  generalize firstR cls cons = F at g13 hF hK
  have en : ((n : Int) + 10).toNat = n + 10 := by omega
  simp (disch := omega) only [wu64, wu32, wu8, fdiv_nn, EO, ↓EP, EQ, EM, ↓reduceIte, Int.reduceAdd, Int.reduceEq, Int.reduceLE, Int.reduceLT, Int.reduceMul, Int.reduceNeg, Int.reducePow, Int.reduceSub, Int.reduceToNat, Nat.reduceAdd, Nat.reduceEqDiff, Nat.reduceLT, Nat.reduceLeDiff, Nat.reduceMul, reduceCtorEq, W_joinT, g13, q1, q3, q10, en]
  refine al_k (nums .u8 (List.replicate (n + 10) 0)) (by rw [madeCells_list, nums_replicate]) fun w2 n2 => ?_
  have g2 := new_cap n2
  simp (disch := omega) only [wu64, wu32, wu8, fdiv_nn, EO, ↓EP, EQ, EM, ↓reduceIte, Int.reduceAdd, Int.reduceEq, Int.reduceLE, Int.reduceLT, Int.reduceMul, Int.reduceNeg, Int.reducePow, Int.reduceSub, Int.reduceToNat, Nat.reduceAdd, Nat.reduceEqDiff, Nat.reduceLT, Nat.reduceLeDiff, Nat.reduceMul, reduceCtorEq, W_joinT, g13, q1, q3, q10, en]
  refine join_cut (fun ρ' w3 => ∃ B, ρ' 14 = B ∧ Gw .u8 w1 w3 B (headA F tag)) ?_ ?_
  · intro N1 hN1
    by_cases h31 : tag < 31
    · have eo := first_or hF.1 hF.2.1 hF.2.2 hc0.2.2.1 (show tag < 32 by omega)
      have eh : headA F tag = [F + tag] := if_pos h31
      simp (disch := omega) only [wu64, wu32, wu8, fdiv_nn, EO, ↓EP, EQ, EM, ↓reduceIte, Int.reduceAdd, Int.reduceEq, Int.reduceLE, Int.reduceLT, Int.reduceMul, Int.reduceNeg, Int.reducePow, Int.reduceSub, Int.reduceToNat, Nat.reduceAdd, Nat.reduceEqDiff, Nat.reduceLT, Nat.reduceLeDiff, Nat.reduceMul, reduceCtorEq, g13, q1, eo]
      refine bsl1 fun w3 n3 => ?_
      simp (disch := omega) only [wu64, wu32, wu8, fdiv_nn, EO, ↓EP, EQ, EM, ↓reduceIte, Int.reduceAdd, Int.reduceEq, Int.reduceLE, Int.reduceLT, Int.reduceMul, Int.reduceNeg, Int.reducePow, Int.reduceSub, Int.reduceToNat, Nat.reduceAdd, Nat.reduceEqDiff, Nat.reduceLT, Nat.reduceLeDiff, Nat.reduceMul, reduceCtorEq, g13, q1, eo]
      refine app_num (g2.new n3).sl rfl n3.rdv (by simp) (by omega) fun v4 w4 a4 => ?_
      have g4 := (g2.new n3).apd a4
      rw [List.nil_append, ← eh] at g4
      simp (disch := omega) only [wu64, wu32, wu8, fdiv_nn, EO, ↓EP, EQ, EM, ↓reduceIte, Int.reduceAdd, Int.reduceEq, Int.reduceLE, Int.reduceLT, Int.reduceMul, Int.reduceNeg, Int.reducePow, Int.reduceSub, Int.reduceToNat, Nat.reduceAdd, Nat.reduceEqDiff, Nat.reduceLT, Nat.reduceLeDiff, Nat.reduceMul, reduceCtorEq]
      exact hN1 _ _ ⟨v4, by simp (disch := omega) only [wu64, wu32, wu8, fdiv_nn, EO, ↓EP, EQ, EM, ↓reduceIte, Int.reduceAdd, Int.reduceEq, Int.reduceLE, Int.reduceLT, Int.reduceMul, Int.reduceNeg, Int.reducePow, Int.reduceSub, Int.reduceToNat, Nat.reduceAdd, Nat.reduceEqDiff, Nat.reduceLT, Nat.reduceLeDiff, Nat.reduceMul, reduceCtorEq], g4⟩
    · have eo := first_or hF.1 hF.2.1 hF.2.2 (show (0 : Int) ≤ 31 by omega) (by omega)
      have eh : headA F tag = [F + 31] ++ sevenR tag.toNat := if_neg h31
      have hs := seven_len tag.toNat
      have et : tag = ((tag.toNat : Nat) : Int) := by omega
      simp (disch := omega) only [wu64, wu32, wu8, fdiv_nn, EO, ↓EP, EQ, EM, ↓reduceIte, Int.reduceAdd, Int.reduceEq, Int.reduceLE, Int.reduceLT, Int.reduceMul, Int.reduceNeg, Int.reducePow, Int.reduceSub, Int.reduceToNat, Nat.reduceAdd, Nat.reduceEqDiff, Nat.reduceLT, Nat.reduceLeDiff, Nat.reduceMul, reduceCtorEq, g13, q1, eo]
      refine bsl1 fun w3 n3 => ?_
      simp (disch := omega) only [wu64, wu32, wu8, fdiv_nn, EO, ↓EP, EQ, EM, ↓reduceIte, Int.reduceAdd, Int.reduceEq, Int.reduceLE, Int.reduceLT, Int.reduceMul, Int.reduceNeg, Int.reducePow, Int.reduceSub, Int.reduceToNat, Nat.reduceAdd, Nat.reduceEqDiff, Nat.reduceLT, Nat.reduceLeDiff, Nat.reduceMul, reduceCtorEq, g13, q1, eo]
      refine app_num (g2.new n3).sl rfl n3.rdv (by simp) (by omega) fun v4 w4 a4 => ?_
      have g4 := (g2.new n3).apd a4
      rw [List.nil_append] at g4
      rw [et] at q1
      generalize tag.toNat = tn at *
      simp (disch := omega) only [wu64, wu32, wu8, fdiv_nn, EO, ↓EP, EQ, EM, ↓reduceIte, Int.reduceAdd, Int.reduceEq, Int.reduceLE, Int.reduceLT, Int.reduceMul, Int.reduceNeg, Int.reducePow, Int.reduceSub, Int.reduceToNat, Nat.reduceAdd, Nat.reduceEqDiff, Nat.reduceLT, Nat.reduceLeDiff, Nat.reduceMul, reduceCtorEq, q1]
      refine seven_vw (by omega) _ fun v5 w5 g5 => ?_
      obtain ⟨A5, c5, rfl, hc5, hr5⟩ := readn g5.sl rfl
      simp (disch := omega) only [wu64, wu32, wu8, fdiv_nn, EO, ↓EP, EQ, EM, ↓reduceIte, Int.reduceAdd, Int.reduceEq, Int.reduceLE, Int.reduceLT, Int.reduceMul, Int.reduceNeg, Int.reducePow, Int.reduceSub, Int.reduceToNat, Nat.reduceAdd, Nat.reduceEqDiff, Nat.reduceLT, Nat.reduceLeDiff, Nat.reduceMul, reduceCtorEq]
      refine app_num (g4.step g5.fr).sl rfl hr5 (by simp; omega) (by omega) fun v6 w6 a6 => ?_
      have g6 := (g4.step g5.fr).apd a6
      rw [← eh] at g6
      simp (disch := omega) only [wu64, wu32, wu8, fdiv_nn, EO, ↓EP, EQ, EM, ↓reduceIte, Int.reduceAdd, Int.reduceEq, Int.reduceLE, Int.reduceLT, Int.reduceMul, Int.reduceNeg, Int.reducePow, Int.reduceSub, Int.reduceToNat, Nat.reduceAdd, Nat.reduceEqDiff, Nat.reduceLT, Nat.reduceLeDiff, Nat.reduceMul, reduceCtorEq]
      exact hN1 _ _ ⟨v6, by simp (disch := omega) only [wu64, wu32, wu8, fdiv_nn, EO, ↓EP, EQ, EM, ↓reduceIte, Int.reduceAdd, Int.reduceEq, Int.reduceLE, Int.reduceLT, Int.reduceMul, Int.reduceNeg, Int.reducePow, Int.reduceSub, Int.reduceToNat, Nat.reduceAdd, Nat.reduceEqDiff, Nat.reduceLT, Nat.reduceLeDiff, Nat.reduceMul, reduceCtorEq], g6⟩
  rintro ρ2 w3 hf2 ⟨B, k14, g3⟩
  have q3' : ρ2 3 = .slice A ls.length c := by rw [hf2 3 rfl]; simp (disch := omega) only [wu64, wu32, wu8, fdiv_nn, EO, ↓EP, EQ, EM, ↓reduceIte, Int.reduceAdd, Int.reduceEq, Int.reduceLE, Int.reduceLT, Int.reduceMul, Int.reduceNeg, Int.reducePow, Int.reduceSub, Int.reduceToNat, Nat.reduceAdd, Nat.reduceEqDiff, Nat.reduceLT, Nat.reduceLeDiff, Nat.reduceMul, reduceCtorEq, q3]
  have q10' : ρ2 10 = .int .i64 n := by rw [hf2 10 rfl]; simp (disch := omega) only [wu64, wu32, wu8, fdiv_nn, EO, ↓EP, EQ, EM, ↓reduceIte, Int.reduceAdd, Int.reduceEq, Int.reduceLE, Int.reduceLT, Int.reduceMul, Int.reduceNeg, Int.reducePow, Int.reduceSub, Int.reduceToNat, Nat.reduceAdd, Nat.reduceEqDiff, Nat.reduceLT, Nat.reduceLeDiff, Nat.reduceMul, reduceCtorEq, q10]
  clear hf2
  have hal := headA_len F tag
  generalize headA F tag = H at g3 hal hK
  simp (disch := omega) only [wu64, wu32, wu8, fdiv_nn, EO, ↓EP, EQ, EM, ↓reduceIte, Int.reduceAdd, Int.reduceEq, Int.reduceLE, Int.reduceLT, Int.reduceMul, Int.reduceNeg, Int.reducePow, Int.reduceSub, Int.reduceToNat, Nat.reduceAdd, Nat.reduceEqDiff, Nat.reduceLT, Nat.reduceLeDiff, Nat.reduceMul, reduceCtorEq, W_joinT, k14, q3', q10']
  refine join_cut (fun ρ' w4 => ∃ B, ρ' 14 = B ∧ Gw .u8 w1 w4 B (H ++ lenBytes n)) ?_ ?_
  · intro N1 hN1
    by_cases h128 : (n : Int) < 128
    · have eh : lenBytes n = [(n : Int)] := if_pos (by omega)
      simp (disch := omega) only [wu64, wu32, wu8, fdiv_nn, EO, ↓EP, EQ, EM, ↓reduceIte, Int.reduceAdd, Int.reduceEq, Int.reduceLE, Int.reduceLT, Int.reduceMul, Int.reduceNeg, Int.reducePow, Int.reduceSub, Int.reduceToNat, Nat.reduceAdd, Nat.reduceEqDiff, Nat.reduceLT, Nat.reduceLeDiff, Nat.reduceMul, reduceCtorEq, k14, q10']
      refine bsl1 fun w4 n4 => ?_
      simp (disch := omega) only [wu64, wu32, wu8, fdiv_nn, EO, ↓EP, EQ, EM, ↓reduceIte, Int.reduceAdd, Int.reduceEq, Int.reduceLE, Int.reduceLT, Int.reduceMul, Int.reduceNeg, Int.reducePow, Int.reduceSub, Int.reduceToNat, Nat.reduceAdd, Nat.reduceEqDiff, Nat.reduceLT, Nat.reduceLeDiff, Nat.reduceMul, reduceCtorEq, k14, q10']
      refine app_num (g3.new n4).sl rfl n4.rdv (by simp; omega) (by omega) fun v5 w5 a5 => ?_
      have g5 := (g3.new n4).apd a5
      rw [← eh] at g5
      simp (disch := omega) only [wu64, wu32, wu8, fdiv_nn, EO, ↓EP, EQ, EM, ↓reduceIte, Int.reduceAdd, Int.reduceEq, Int.reduceLE, Int.reduceLT, Int.reduceMul, Int.reduceNeg, Int.reducePow, Int.reduceSub, Int.reduceToNat, Nat.reduceAdd, Nat.reduceEqDiff, Nat.reduceLT, Nat.reduceLeDiff, Nat.reduceMul, reduceCtorEq]
      exact hN1 _ _ ⟨v5, by simp (disch := omega) only [wu64, wu32, wu8, fdiv_nn, EO, ↓EP, EQ, EM, ↓reduceIte, Int.reduceAdd, Int.reduceEq, Int.reduceLE, Int.reduceLT, Int.reduceMul, Int.reduceNeg, Int.reducePow, Int.reduceSub, Int.reduceToNat, Nat.reduceAdd, Nat.reduceEqDiff, Nat.reduceLT, Nat.reduceLeDiff, Nat.reduceMul, reduceCtorEq], g5⟩
    · have eh : lenBytes n = [128 + ((bytesBE 4 n).length : Int)] ++ bytesBE 4 n := if_neg (by omega)
      have hbl := be_len 4 n
      have hst := strip_be (n := n) (by omega)
      have e24 : (n : Int) / 16777216 = ((n / 16777216 % 256 : Nat) : Int) := by omega
      have e16 : IntKind.u8.wrap ((n : Int) / 65536) = ((n / 65536 % 256 : Nat) : Int) := by rw [wu8_mod]; omega
      have e8 : IntKind.u8.wrap ((n : Int) / 256) = ((n / 256 % 256 : Nat) : Int) := by rw [wu8_mod]; omega
      have e0 : IntKind.u8.wrap (n : Int) = ((n % 256 : Nat) : Int) := by rw [wu8_mod]; omega
      simp (disch := omega) only [wu64, wu32, wu8, fdiv_nn, EO, ↓EP, EQ, EM, ↓reduceIte, Int.reduceAdd, Int.reduceEq, Int.reduceLE, Int.reduceLT, Int.reduceMul, Int.reduceNeg, Int.reducePow, Int.reduceSub, Int.reduceToNat, Nat.reduceAdd, Nat.reduceEqDiff, Nat.reduceLT, Nat.reduceLeDiff, Nat.reduceMul, reduceCtorEq, k14, q10', e24, e16, e8, e0]
      refine bsl4 fun w4 n4 => ?_
      simp (disch := omega) only [wu64, wu32, wu8, fdiv_nn, EO, ↓EP, EQ, EM, ↓reduceIte, Int.reduceAdd, Int.reduceEq, Int.reduceLE, Int.reduceLT, Int.reduceMul, Int.reduceNeg, Int.reducePow, Int.reduceSub, Int.reduceToNat, Nat.reduceAdd, Nat.reduceEqDiff, Nat.reduceLT, Nat.reduceLeDiff, Nat.reduceMul, reduceCtorEq, k14, q10']
      refine trim_n (l := [((n / 16777216 % 256 : Nat) : Int), ((n / 65536 % 256 : Nat) : Int), ((n / 256 % 256 : Nat) : Int), ((n % 256 : Nat) : Int)]) (Nat.le_refl _) n4.rdv (by simp) (by simp) hst _ fun A5 c5 hc5 hr5 => ?_
      generalize bytesBE 4 n = S5 at *
      have eo := d8_128or (a := (S5.length : Int)) ⟨by omega, by omega⟩
      have eo2 : (S5.length : Int) % 128 + 128 = 128 + (S5.length : Int) := by omega
      rw [eo2] at eo
      simp (disch := omega) only [wu64, wu32, wu8, fdiv_nn, EO, ↓EP, EQ, EM, ↓reduceIte, Int.reduceAdd, Int.reduceEq, Int.reduceLE, Int.reduceLT, Int.reduceMul, Int.reduceNeg, Int.reducePow, Int.reduceSub, Int.reduceToNat, Nat.reduceAdd, Nat.reduceEqDiff, Nat.reduceLT, Nat.reduceLeDiff, Nat.reduceMul, reduceCtorEq, k14, q10', eo]
      refine bsl1 fun w5 n5 => ?_
      simp (disch := omega) only [wu64, wu32, wu8, fdiv_nn, EO, ↓EP, EQ, EM, ↓reduceIte, Int.reduceAdd, Int.reduceEq, Int.reduceLE, Int.reduceLT, Int.reduceMul, Int.reduceNeg, Int.reducePow, Int.reduceSub, Int.reduceToNat, Nat.reduceAdd, Nat.reduceEqDiff, Nat.reduceLT, Nat.reduceLeDiff, Nat.reduceMul, reduceCtorEq, k14, q10', eo]
      refine app_num ((g3.new n4).new n5).sl rfl n5.rdv (by simp; omega) (by omega) fun v6 w6 a6 => ?_
      have g6 := ((g3.new n4).new n5).apd a6
      simp (disch := omega) only [wu64, wu32, wu8, fdiv_nn, EO, ↓EP, EQ, EM, ↓reduceIte, Int.reduceAdd, Int.reduceEq, Int.reduceLE, Int.reduceLT, Int.reduceMul, Int.reduceNeg, Int.reducePow, Int.reduceSub, Int.reduceToNat, Nat.reduceAdd, Nat.reduceEqDiff, Nat.reduceLT, Nat.reduceLeDiff, Nat.reduceMul, reduceCtorEq, k14]
      refine app_num g6.sl rfl (hr5 w6 (((n4.rdv).nb (n5.fr nob)).fr a6.fr (.inr fun p hp hb => by
        have h1 : p.block < w3.heap.size := g3.sl.lt hb
        have h2 : w3.heap.size = p.block := congrArg Addr.block (Option.some.inj hp)
        omega))) (by simp; omega) (by omega) fun v7 w7 a7 => ?_
      have g7 := g6.apd a7
      rw [List.append_assoc, ← eh] at g7
      simp (disch := omega) only [wu64, wu32, wu8, fdiv_nn, EO, ↓EP, EQ, EM, ↓reduceIte, Int.reduceAdd, Int.reduceEq, Int.reduceLE, Int.reduceLT, Int.reduceMul, Int.reduceNeg, Int.reducePow, Int.reduceSub, Int.reduceToNat, Nat.reduceAdd, Nat.reduceEqDiff, Nat.reduceLT, Nat.reduceLeDiff, Nat.reduceMul, reduceCtorEq]
      exact hN1 _ _ ⟨v7, by simp (disch := omega) only [wu64, wu32, wu8, fdiv_nn, EO, ↓EP, EQ, EM, ↓reduceIte, Int.reduceAdd, Int.reduceEq, Int.reduceLE, Int.reduceLT, Int.reduceMul, Int.reduceNeg, Int.reducePow, Int.reduceSub, Int.reduceToNat, Nat.reduceAdd, Nat.reduceEqDiff, Nat.reduceLT, Nat.reduceLeDiff, Nat.reduceMul, reduceCtorEq], g7⟩
  rintro ρ3 w4 hf3 ⟨B4, s14, g4⟩
  have s3 : ρ3 3 = .slice A ls.length c := by rw [hf3 3 rfl]; simp (disch := omega) only [wu64, wu32, wu8, fdiv_nn, EO, ↓EP, EQ, EM, ↓reduceIte, Int.reduceAdd, Int.reduceEq, Int.reduceLE, Int.reduceLT, Int.reduceMul, Int.reduceNeg, Int.reducePow, Int.reduceSub, Int.reduceToNat, Nat.reduceAdd, Nat.reduceEqDiff, Nat.reduceLT, Nat.reduceLeDiff, Nat.reduceMul, reduceCtorEq, q3']
  clear hf3
  have hll := lenB_len n
  generalize lenBytes n = L5 at *
  simp (disch := omega) only [wu64, wu32, wu8, fdiv_nn, EO, ↓EP, EQ, EM, ↓reduceIte, Int.reduceAdd, Int.reduceEq, Int.reduceLE, Int.reduceLT, Int.reduceMul, Int.reduceNeg, Int.reducePow, Int.reduceSub, Int.reduceToNat, Nat.reduceAdd, Nat.reduceEqDiff, Nat.reduceLT, Nat.reduceLeDiff, Nat.reduceMul, reduceCtorEq, s14, s3]
  refine loop_inv (fun t ρ5 w5 => ∃ (j : Nat) (C : Value), ρ5 113 = .int .i64 j ∧ ρ5 14 = C ∧ j ≤ ls.length ∧ t = ls.length - j ∧ Gw .u8 w1 w5 C (H ++ L5 ++ (ls.take j).flatten)) ls.length ⟨0, B4, by simp (disch := omega) only [wu64, wu32, wu8, fdiv_nn, EO, ↓EP, EQ, EM, ↓reduceIte, Int.reduceAdd, Int.reduceEq, Int.reduceLE, Int.reduceLT, Int.reduceMul, Int.reduceNeg, Int.reducePow, Int.reduceSub, Int.reduceToNat, Nat.reduceAdd, Nat.reduceEqDiff, Nat.reduceLT, Nat.reduceLeDiff, Nat.reduceMul, reduceCtorEq], by simp (disch := omega) only [wu64, wu32, wu8, fdiv_nn, EO, ↓EP, EQ, EM, ↓reduceIte, Int.reduceAdd, Int.reduceEq, Int.reduceLE, Int.reduceLT, Int.reduceMul, Int.reduceNeg, Int.reducePow, Int.reduceSub, Int.reduceToNat, Nat.reduceAdd, Nat.reduceEqDiff, Nat.reduceLT, Nat.reduceLeDiff, Nat.reduceMul, reduceCtorEq, s14], by omega, by omega, by simpa using g4⟩ ?_
  rintro t ρ5 w5 hf5 ⟨j, C, k113, k14', hj2, rfl, G⟩ N5 hN5
  have s111 : ρ5 111 = .slice A ls.length c := by rw [hf5 111 rfl]; simp (disch := omega) only [wu64, wu32, wu8, fdiv_nn, EO, ↓EP, EQ, EM, ↓reduceIte, Int.reduceAdd, Int.reduceEq, Int.reduceLE, Int.reduceLT, Int.reduceMul, Int.reduceNeg, Int.reducePow, Int.reduceSub, Int.reduceToNat, Nat.reduceAdd, Nat.reduceEqDiff, Nat.reduceLT, Nat.reduceLeDiff, Nat.reduceMul, reduceCtorEq, s3]
  have s112 : ρ5 112 = .int .i64 ls.length := by rw [hf5 112 rfl]; simp (disch := omega) only [wu64, wu32, wu8, fdiv_nn, EO, ↓EP, EQ, EM, ↓reduceIte, Int.reduceAdd, Int.reduceEq, Int.reduceLE, Int.reduceLT, Int.reduceMul, Int.reduceNeg, Int.reducePow, Int.reduceSub, Int.reduceToNat, Nat.reduceAdd, Nat.reduceEqDiff, Nat.reduceLT, Nat.reduceLeDiff, Nat.reduceMul, reduceCtorEq, s3]
  clear hf5
  by_cases hjl2 : (j : Int) < (ls.length : Int)
  · obtain ⟨ad, dA, dc, rfl, _, cj, hdc, hdr⟩ := (hX.nb G.fr).at (i := j) (by omega)
    have hts := tot_succ (ls := ls) (j := j) (by omega)
    have htl := tot_le ls (j + 1)
    have hfl := flat_len ls j
    simp (disch := omega) only [wu64, wu32, wu8, fdiv_nn, EO, ↓EP, EQ, EM, ↓reduceIte, Int.reduceAdd, Int.reduceEq, Int.reduceLE, Int.reduceLT, Int.reduceMul, Int.reduceNeg, Int.reducePow, Int.reduceSub, Int.reduceToNat, Nat.reduceAdd, Nat.reduceEqDiff, Nat.reduceLT, Nat.reduceLeDiff, Nat.reduceMul, reduceCtorEq, k113, k14', s111, s112, cj]
    refine app_num G.sl rfl hdr (by simp only [List.length_append]; omega) (by omega) fun v6 w6 a6 => ?_
    have g6 := G.apd a6
    rw [List.append_assoc, ← flat_succ (by omega)] at g6
    simp (disch := omega) only [wu64, wu32, wu8, fdiv_nn, EO, ↓EP, EQ, EM, ↓reduceIte, Int.reduceAdd, Int.reduceEq, Int.reduceLE, Int.reduceLT, Int.reduceMul, Int.reduceNeg, Int.reducePow, Int.reduceSub, Int.reduceToNat, Nat.reduceAdd, Nat.reduceEqDiff, Nat.reduceLT, Nat.reduceLeDiff, Nat.reduceMul, reduceCtorEq, k113]
    exact hN5 (ls.length - (j + 1)) _ _ (by omega) ⟨j + 1, v6, by simp (disch := omega) only [wu64, wu32, wu8, fdiv_nn, EO, ↓EP, EQ, EM, ↓reduceIte, Int.reduceAdd, Int.reduceEq, Int.reduceLE, Int.reduceLT, Int.reduceMul, Int.reduceNeg, Int.reducePow, Int.reduceSub, Int.reduceToNat, Nat.reduceAdd, Nat.reduceEqDiff, Nat.reduceLT, Nat.reduceLeDiff, Nat.reduceMul, reduceCtorEq, k113, Int.natCast_add], by simp (disch := omega) only [wu64, wu32, wu8, fdiv_nn, EO, ↓EP, EQ, EM, ↓reduceIte, Int.reduceAdd, Int.reduceEq, Int.reduceLE, Int.reduceLT, Int.reduceMul, Int.reduceNeg, Int.reducePow, Int.reduceSub, Int.reduceToNat, Nat.reduceAdd, Nat.reduceEqDiff, Nat.reduceLT, Nat.reduceLeDiff, Nat.reduceMul, reduceCtorEq], by omega, rfl, g6⟩
  · have hje : j = ls.length := by omega
    subst hje
    rw [List.take_of_length_le (Nat.le_refl _)] at G
    simp (disch := omega) only [wu64, wu32, wu8, fdiv_nn, EO, ↓EP, EQ, EM, ↓reduceIte, Int.reduceAdd, Int.reduceEq, Int.reduceLE, Int.reduceLT, Int.reduceMul, Int.reduceNeg, Int.reducePow, Int.reduceSub, Int.reduceToNat, Nat.reduceAdd, Nat.reduceEqDiff, Nat.reduceLT, Nat.reduceLeDiff, Nat.reduceMul, reduceCtorEq, k113, k14', s112]
    exact hK _ w5 G
end Go.Proofs.YtcflokckfjkdpaaDoor.Der

/- Elements that are laid, walked: the document's. -/
set_option linter.unusedVariables false
set_option linter.unusedSimpArgs false
namespace Go.Proofs.YtcflokckfjkdpaaDoor.Der
open Go Go.RowKit Go.Proofs Go.Proofs.YtcflokckfjkdpaaDoor.Eng Go.Proofs.YtcflokckfjkdpaaDoor.Code
set_option maxRecDepth 100000
attribute [local irreducible] callK S.W opsW scrW scrT

theorem own1 {k : IntKind} {w w' : World} {x : Int} (n : New w w' (nums k [x])) : Gw k w w' (.slice (some ⟨w.heap.size, 0, none⟩) 1 1) [x] := ⟨n.sl, fun b e => by cases e; exact Nat.le_refl _, n.fr nob⟩
theorem be_z' : ∀ f, bytesBE f 0 = [] := by intro f; cases f <;> rfl
set_option maxHeartbeats 4000000 in
theorem rhead_vw {w : World} {dep cls tag : Int} {cons : Bool} {D : Value} {n : Nat} (h0 : 0 ≤ cls ∧ cls ≤ 3) (h1 : 0 ≤ tag ∧ tag ≤ 268435455) (hn : n < 2147483648) (K : Value → World → Prop)
    (hK : ∀ v' w', Gw .u8 w w' v' (headR cls tag cons n) → K v' w') : callK Tryd.prog 57 [.agg [.int .i64 dep, .int .i64 cls, .int .i64 tag, .bool cons, D].toArray, .int .i64 n] w K := by
  refine call_of Tryd.func57 Code.h57 (by simp [Code.c57]) ?_
  simp (disch := omega) only [wu64, wu32, wu8, fdiv_nn, EO, ↓EP, EQ, EM, ↓reduceIte, Int.reduceAdd, Int.reduceEq, Int.reduceLE, Int.reduceLT, Int.reduceMul, Int.reduceNeg, Int.reducePow, Int.reduceSub, Int.reduceToNat, Nat.reduceAdd, Nat.reduceEqDiff, Nat.reduceLT, Nat.reduceLeDiff, Nat.reduceMul, reduceCtorEq, Code.c57]
  refine al_k [.int .i64 dep, .int .i64 cls, .int .i64 tag, .bool cons, D] rfl fun w1 n1 => ?_
  have B1 := n1.blk
  have f1 := n1.fr nob
  have q1 : ∀ {w2}, Fr w1 w2 nob → w2.cell? ⟨w.heap.size, 1, none⟩ = some (.int .i64 cls) := fun f => (B1.nb f).has 1 _ rfl
  have q2 : ∀ {w2}, Fr w1 w2 nob → w2.cell? ⟨w.heap.size, 2, none⟩ = some (.int .i64 tag) := fun f => (B1.nb f).has 2 _ rfl
  have q3 : ∀ {w2}, Fr w1 w2 nob → w2.cell? ⟨w.heap.size, 3, none⟩ = some (.bool cons) := fun f => (B1.nb f).has 3 _ rfl
  have e6 : IntKind.u8.wrap (cls * 2 ^ 6) = cls * 64 := by
    rw [show (2 : Int) ^ 6 = 64 by decide]; exact wu8 (by omega) (by omega)
  have p1 := q1 (Fr.refl w1 nob)
  have p2 := q2 (Fr.refl w1 nob)
  have p3 := q3 (Fr.refl w1 nob)
  rw [headR_eq] at hK
  simp (disch := omega) only [wu64, wu32, wu8, fdiv_nn, EO, ↓EP, EQ, EM, ↓reduceIte, Int.reduceAdd, Int.reduceEq, Int.reduceLE, Int.reduceLT, Int.reduceMul, Int.reduceNeg, Int.reducePow, Int.reduceSub, Int.reduceToNat, Nat.reduceAdd, Nat.reduceEqDiff, Nat.reduceLT, Nat.reduceLeDiff, Nat.reduceMul, reduceCtorEq, W_joinT, p1, p3, e6]
  refine join_cut (fun ρ' w2 => w2 = w1 ∧ ρ' 5 = .int .u8 (firstR cls cons)) ?_ ?_
  · intro N1 hN1
    cases cons
    · simp (disch := omega) only [wu64, wu32, wu8, fdiv_nn, EO, ↓EP, EQ, EM, ↓reduceIte, Int.reduceAdd, Int.reduceEq, Int.reduceLE, Int.reduceLT, Int.reduceMul, Int.reduceNeg, Int.reducePow, Int.reduceSub, Int.reduceToNat, Nat.reduceAdd, Nat.reduceEqDiff, Nat.reduceLT, Nat.reduceLeDiff, Nat.reduceMul, reduceCtorEq, p1, p3, e6]
      exact hN1 _ _ ⟨rfl, by simp (disch := omega) only [wu64, wu32, wu8, fdiv_nn, EO, ↓EP, EQ, EM, ↓reduceIte, Int.reduceAdd, Int.reduceEq, Int.reduceLE, Int.reduceLT, Int.reduceMul, Int.reduceNeg, Int.reducePow, Int.reduceSub, Int.reduceToNat, Nat.reduceAdd, Nat.reduceEqDiff, Nat.reduceLT, Nat.reduceLeDiff, Nat.reduceMul, reduceCtorEq, e6]; unfold firstR; simp⟩
    · simp (disch := omega) only [wu64, wu32, wu8, fdiv_nn, EO, ↓EP, EQ, EM, ↓reduceIte, Int.reduceAdd, Int.reduceEq, Int.reduceLE, Int.reduceLT, Int.reduceMul, Int.reduceNeg, Int.reducePow, Int.reduceSub, Int.reduceToNat, Nat.reduceAdd, Nat.reduceEqDiff, Nat.reduceLT, Nat.reduceLeDiff, Nat.reduceMul, reduceCtorEq, p1, p3, e6]
      exact hN1 _ _ ⟨rfl, by simp (disch := omega) only [wu64, wu32, wu8, fdiv_nn, EO, ↓EP, EQ, EM, ↓reduceIte, Int.reduceAdd, Int.reduceEq, Int.reduceLE, Int.reduceLT, Int.reduceMul, Int.reduceNeg, Int.reducePow, Int.reduceSub, Int.reduceToNat, Nat.reduceAdd, Nat.reduceEqDiff, Nat.reduceLT, Nat.reduceLeDiff, Nat.reduceMul, reduceCtorEq, e6]; unfold firstR; simp⟩
  rintro ρ1 w2 hf1 ⟨rfl, g5⟩
  have r2 : ρ1 2 = .pointer (some ⟨w.heap.size, 0, none⟩) := by rw [hf1 2 rfl]; simp (disch := omega) only [wu64, wu32, wu8, fdiv_nn, EO, ↓EP, EQ, EM, ↓reduceIte, Int.reduceAdd, Int.reduceEq, Int.reduceLE, Int.reduceLT, Int.reduceMul, Int.reduceNeg, Int.reducePow, Int.reduceSub, Int.reduceToNat, Nat.reduceAdd, Nat.reduceEqDiff, Nat.reduceLT, Nat.reduceLeDiff, Nat.reduceMul, reduceCtorEq]
  have r1 : ρ1 1 = .int .i64 n := by rw [hf1 1 rfl]; simp (disch := omega) only [wu64, wu32, wu8, fdiv_nn, EO, ↓EP, EQ, EM, ↓reduceIte, Int.reduceAdd, Int.reduceEq, Int.reduceLE, Int.reduceLT, Int.reduceMul, Int.reduceNeg, Int.reducePow, Int.reduceSub, Int.reduceToNat, Nat.reduceAdd, Nat.reduceEqDiff, Nat.reduceLT, Nat.reduceLeDiff, Nat.reduceMul, reduceCtorEq]
  clear hf1
  have hF := firstR_bd (cons := cons) h0.1 h0.2
  generalize firstR cls cons = F at g5 hF hK
  simp (disch := omega) only [wu64, wu32, wu8, fdiv_nn, EO, ↓EP, EQ, EM, ↓reduceIte, Int.reduceAdd, Int.reduceEq, Int.reduceLE, Int.reduceLT, Int.reduceMul, Int.reduceNeg, Int.reducePow, Int.reduceSub, Int.reduceToNat, Nat.reduceAdd, Nat.reduceEqDiff, Nat.reduceLT, Nat.reduceLeDiff, Nat.reduceMul, reduceCtorEq, W_joinT, g5, r2, p2]
  refine join_cut (fun ρ' w3 => ∃ B, ρ' 6 = B ∧ Gw .u8 w w3 B (headA F tag)) ?_ ?_
  · intro N1 hN1
    by_cases h31 : tag < 31
    · have eh : headA F tag = [F + tag] := if_pos h31
      simp (disch := omega) only [wu64, wu32, wu8, fdiv_nn, EO, ↓EP, EQ, EM, ↓reduceIte, Int.reduceAdd, Int.reduceEq, Int.reduceLE, Int.reduceLT, Int.reduceMul, Int.reduceNeg, Int.reducePow, Int.reduceSub, Int.reduceToNat, Nat.reduceAdd, Nat.reduceEqDiff, Nat.reduceLT, Nat.reduceLeDiff, Nat.reduceMul, reduceCtorEq, g5, r2, p2]
      refine bsl1 fun w3 n3 => ?_
      simp (disch := omega) only [wu64, wu32, wu8, fdiv_nn, EO, ↓EP, EQ, EM, ↓reduceIte, Int.reduceAdd, Int.reduceEq, Int.reduceLE, Int.reduceLT, Int.reduceMul, Int.reduceNeg, Int.reducePow, Int.reduceSub, Int.reduceToNat, Nat.reduceAdd, Nat.reduceEqDiff, Nat.reduceLT, Nat.reduceLeDiff, Nat.reduceMul, reduceCtorEq]
      exact hN1 _ _ ⟨.slice (some ⟨w2.heap.size, 0, none⟩) 1 1, by simp (disch := omega) only [wu64, wu32, wu8, fdiv_nn, EO, ↓EP, EQ, EM, ↓reduceIte, Int.reduceAdd, Int.reduceEq, Int.reduceLE, Int.reduceLT, Int.reduceMul, Int.reduceNeg, Int.reducePow, Int.reduceSub, Int.reduceToNat, Nat.reduceAdd, Nat.reduceEqDiff, Nat.reduceLT, Nat.reduceLeDiff, Nat.reduceMul, reduceCtorEq], by rw [eh]; exact (own1 n3).from f1⟩
    · have eh : headA F tag = [F + 31] ++ sevenR tag.toNat := if_neg h31
      simp (disch := omega) only [wu64, wu32, wu8, fdiv_nn, EO, ↓EP, EQ, EM, ↓reduceIte, Int.reduceAdd, Int.reduceEq, Int.reduceLE, Int.reduceLT, Int.reduceMul, Int.reduceNeg, Int.reducePow, Int.reduceSub, Int.reduceToNat, Nat.reduceAdd, Nat.reduceEqDiff, Nat.reduceLT, Nat.reduceLeDiff, Nat.reduceMul, reduceCtorEq, g5, r2, p2]
      refine loop_inv (fun t ρ w3 => ∃ (x : Nat) (B : Value) (l : List Int), ρ 8 = .int .i64 x ∧ ρ 7 = B ∧ Gw .u8 w2 w3 B l ∧ t = x ∧ l.length ≤ 11 ∧ x ≤ 268435455 ∧ ((l.length = 0 ∧ x = tag.toNat) ∨ (0 < l.length ∧ ∃ f, f + l.length = 11 ∧ x < 128 ^ f ∧ sevenHi f x ++ l = sevenR tag.toNat))) tag.toNat ⟨tag.toNat, .slice none 0 0, [], by simp (disch := omega) only [wu64, wu32, wu8, fdiv_nn, EO, ↓EP, EQ, EM, ↓reduceIte, Int.reduceAdd, Int.reduceEq, Int.reduceLE, Int.reduceLT, Int.reduceMul, Int.reduceNeg, Int.reducePow, Int.reduceSub, Int.reduceToNat, Nat.reduceAdd, Nat.reduceEqDiff, Nat.reduceLT, Nat.reduceLeDiff, Nat.reduceMul, reduceCtorEq]; congr 1; omega, by simp (disch := omega) only [wu64, wu32, wu8, fdiv_nn, EO, ↓EP, EQ, EM, ↓reduceIte, Int.reduceAdd, Int.reduceEq, Int.reduceLE, Int.reduceLT, Int.reduceMul, Int.reduceNeg, Int.reducePow, Int.reduceSub, Int.reduceToNat, Nat.reduceAdd, Nat.reduceEqDiff, Nat.reduceLT, Nat.reduceLeDiff, Nat.reduceMul, reduceCtorEq], Gw.nil .u8 w2, rfl, by simp, by omega, .inl ⟨rfl, rfl⟩⟩ ?_
      rintro t ρ w3 hf ⟨x, B, l, k8, k7, g3, ht, hl, hx, hs⟩ N hN
      have k5 : ρ 5 = .int .u8 F := by rw [hf 5 rfl]; simp (disch := omega) only [wu64, wu32, wu8, fdiv_nn, EO, ↓EP, EQ, EM, ↓reduceIte, Int.reduceAdd, Int.reduceEq, Int.reduceLE, Int.reduceLT, Int.reduceMul, Int.reduceNeg, Int.reducePow, Int.reduceSub, Int.reduceToNat, Nat.reduceAdd, Nat.reduceEqDiff, Nat.reduceLT, Nat.reduceLeDiff, Nat.reduceMul, reduceCtorEq, g5]
      clear hf
      obtain ⟨BA, bc, rfl, hbc, hBr⟩ := readn g3.sl rfl
      by_cases hx0 : x = 0
      · rcases hs with ⟨_, hs⟩ | ⟨hl0, f, hf, _, hs⟩
        · omega
        rw [hx0, sevenHi_z, List.nil_append] at hs
        rw [hx0] at k8
        simp (disch := omega) only [wu64, wu32, wu8, fdiv_nn, EO, ↓EP, EQ, EM, ↓reduceIte, Int.reduceAdd, Int.reduceEq, Int.reduceLE, Int.reduceLT, Int.reduceMul, Int.reduceNeg, Int.reducePow, Int.reduceSub, Int.reduceToNat, Nat.reduceAdd, Nat.reduceEqDiff, Nat.reduceLT, Nat.reduceLeDiff, Nat.reduceMul, reduceCtorEq, k8, k7, k5, Int.natCast_zero]
        refine bsl1 fun w4 n4 => ?_
        simp (disch := omega) only [wu64, wu32, wu8, fdiv_nn, EO, ↓EP, EQ, EM, ↓reduceIte, Int.reduceAdd, Int.reduceEq, Int.reduceLE, Int.reduceLT, Int.reduceMul, Int.reduceNeg, Int.reducePow, Int.reduceSub, Int.reduceToNat, Nat.reduceAdd, Nat.reduceEqDiff, Nat.reduceLT, Nat.reduceLeDiff, Nat.reduceMul, reduceCtorEq, k7]
        refine app_num n4.sl rfl (hBr.nb (n4.fr nob)) (by simp; omega) (by omega) fun v5 w5 a5 => ?_
        have g5' := (((own1 n4).apd a5).from g3.fr).from f1
        rw [hs, ← eh] at g5'
        simp (disch := omega) only [wu64, wu32, wu8, fdiv_nn, EO, ↓EP, EQ, EM, ↓reduceIte, Int.reduceAdd, Int.reduceEq, Int.reduceLE, Int.reduceLT, Int.reduceMul, Int.reduceNeg, Int.reducePow, Int.reduceSub, Int.reduceToNat, Nat.reduceAdd, Nat.reduceEqDiff, Nat.reduceLT, Nat.reduceLeDiff, Nat.reduceMul, reduceCtorEq]
        exact hN1 _ _ ⟨v5, by simp (disch := omega) only [wu64, wu32, wu8, fdiv_nn, EO, ↓EP, EQ, EM, ↓reduceIte, Int.reduceAdd, Int.reduceEq, Int.reduceLE, Int.reduceLT, Int.reduceMul, Int.reduceNeg, Int.reducePow, Int.reduceSub, Int.reduceToNat, Nat.reduceAdd, Nat.reduceEqDiff, Nat.reduceLT, Nat.reduceLeDiff, Nat.reduceMul, reduceCtorEq], g5'⟩
      · have ewb : IntKind.u8.wrap ((x : Int) % 128) = ((x % 128 : Nat) : Int) := by rw [wu8_mod]; omega
        have hxp : (0 : Int) < (x : Int) := by omega
        by_cases hl0 : l.length = 0
        · have hs' : x = tag.toNat := by
            rcases hs with ⟨_, hs⟩ | ⟨h, _⟩
            · exact hs
            · omega
          have hln : l = [] := List.length_eq_zero_iff.1 hl0
          subst hln
          rw [List.length_nil] at k7
          simp (disch := omega) only [wu64, wu32, wu8, fdiv_nn, EO, ↓EP, EQ, EM, ↓reduceIte, Int.reduceAdd, Int.reduceEq, Int.reduceLE, Int.reduceLT, Int.reduceMul, Int.reduceNeg, Int.reducePow, Int.reduceSub, Int.reduceToNat, Nat.reduceAdd, Nat.reduceEqDiff, Nat.reduceLT, Nat.reduceLeDiff, Nat.reduceMul, reduceCtorEq, W_join, k8, k7, ewb, Int.natCast_zero]
          refine bsl1 fun w4 n4 => ?_
          simp (disch := omega) only [wu64, wu32, wu8, fdiv_nn, EO, ↓EP, EQ, EM, ↓reduceIte, Int.reduceAdd, Int.reduceEq, Int.reduceLE, Int.reduceLT, Int.reduceMul, Int.reduceNeg, Int.reducePow, Int.reduceSub, Int.reduceToNat, Nat.reduceAdd, Nat.reduceEqDiff, Nat.reduceLT, Nat.reduceLeDiff, Nat.reduceMul, reduceCtorEq, k7]
          refine app_num n4.sl rfl (hBr.nb (n4.fr nob)) (by simp) (by omega) fun v5 w5 a5 => ?_
          have g5' := ((own1 n4).apd a5).from g3.fr
          simp (disch := omega) only [wu64, wu32, wu8, fdiv_nn, EO, ↓EP, EQ, EM, ↓reduceIte, Int.reduceAdd, Int.reduceEq, Int.reduceLE, Int.reduceLT, Int.reduceMul, Int.reduceNeg, Int.reducePow, Int.reduceSub, Int.reduceToNat, Nat.reduceAdd, Nat.reduceEqDiff, Nat.reduceLT, Nat.reduceLeDiff, Nat.reduceMul, reduceCtorEq, k8]
          exact hN (x / 128) _ _ (by omega) ⟨x / 128, v5, _, by simp (disch := omega) only [wu64, wu32, wu8, fdiv_nn, EO, ↓EP, EQ, EM, ↓reduceIte, Int.reduceAdd, Int.reduceEq, Int.reduceLE, Int.reduceLT, Int.reduceMul, Int.reduceNeg, Int.reducePow, Int.reduceSub, Int.reduceToNat, Nat.reduceAdd, Nat.reduceEqDiff, Nat.reduceLT, Nat.reduceLeDiff, Nat.reduceMul, reduceCtorEq, k8, Int.natCast_ediv], by simp (disch := omega) only [wu64, wu32, wu8, fdiv_nn, EO, ↓EP, EQ, EM, ↓reduceIte, Int.reduceAdd, Int.reduceEq, Int.reduceLE, Int.reduceLT, Int.reduceMul, Int.reduceNeg, Int.reducePow, Int.reduceSub, Int.reduceToNat, Nat.reduceAdd, Nat.reduceEqDiff, Nat.reduceLT, Nat.reduceLeDiff, Nat.reduceMul, reduceCtorEq], g5', rfl, by simp, by omega, .inr ⟨by simp, 10, by simp, by omega, by rw [← hs']; rfl⟩⟩
        · have hlp : (0 : Int) < (l.length : Int) := by omega
          obtain ⟨f, hfl, hxf, hs'⟩ : ∃ f, f + l.length = 11 ∧ x < 128 ^ f ∧ sevenHi f x ++ l = sevenR tag.toNat := by
            rcases hs with ⟨h, _⟩ | ⟨_, hs⟩
            · omega
            · exact hs
          obtain ⟨f, rfl⟩ : ∃ g, f = g + 1 := by
            cases f with
            | zero => simp at hxf; omega
            | succ f => exact ⟨f, rfl⟩
          rw [Nat.pow_succ] at hxf
          rw [sevenHi, if_neg hx0] at hs'
          have ew2 : IntKind.u8.wrap (((x % 128 : Nat) : Int) + 128) = ((x % 128 + 128 : Nat) : Int) := by rw [wu8_mod]; omega
          simp (disch := omega) only [wu64, wu32, wu8, fdiv_nn, EO, ↓EP, EQ, EM, ↓reduceIte, Int.reduceAdd, Int.reduceEq, Int.reduceLE, Int.reduceLT, Int.reduceMul, Int.reduceNeg, Int.reducePow, Int.reduceSub, Int.reduceToNat, Nat.reduceAdd, Nat.reduceEqDiff, Nat.reduceLT, Nat.reduceLeDiff, Nat.reduceMul, reduceCtorEq, W_join, k8, k7, ewb, ew2]
          refine bsl1 fun w4 n4 => ?_
          simp (disch := omega) only [wu64, wu32, wu8, fdiv_nn, EO, ↓EP, EQ, EM, ↓reduceIte, Int.reduceAdd, Int.reduceEq, Int.reduceLE, Int.reduceLT, Int.reduceMul, Int.reduceNeg, Int.reducePow, Int.reduceSub, Int.reduceToNat, Nat.reduceAdd, Nat.reduceEqDiff, Nat.reduceLT, Nat.reduceLeDiff, Nat.reduceMul, reduceCtorEq, k7]
          refine app_num n4.sl rfl (hBr.nb (n4.fr nob)) (by simp; omega) (by omega) fun v5 w5 a5 => ?_
          have g5' := ((own1 n4).apd a5).from g3.fr
          simp (disch := omega) only [wu64, wu32, wu8, fdiv_nn, EO, ↓EP, EQ, EM, ↓reduceIte, Int.reduceAdd, Int.reduceEq, Int.reduceLE, Int.reduceLT, Int.reduceMul, Int.reduceNeg, Int.reducePow, Int.reduceSub, Int.reduceToNat, Nat.reduceAdd, Nat.reduceEqDiff, Nat.reduceLT, Nat.reduceLeDiff, Nat.reduceMul, reduceCtorEq, k8]
          exact hN (x / 128) _ _ (by omega) ⟨x / 128, v5, _, by simp (disch := omega) only [wu64, wu32, wu8, fdiv_nn, EO, ↓EP, EQ, EM, ↓reduceIte, Int.reduceAdd, Int.reduceEq, Int.reduceLE, Int.reduceLT, Int.reduceMul, Int.reduceNeg, Int.reducePow, Int.reduceSub, Int.reduceToNat, Nat.reduceAdd, Nat.reduceEqDiff, Nat.reduceLT, Nat.reduceLeDiff, Nat.reduceMul, reduceCtorEq, k8, Int.natCast_ediv], by simp (disch := omega) only [wu64, wu32, wu8, fdiv_nn, EO, ↓EP, EQ, EM, ↓reduceIte, Int.reduceAdd, Int.reduceEq, Int.reduceLE, Int.reduceLT, Int.reduceMul, Int.reduceNeg, Int.reducePow, Int.reduceSub, Int.reduceToNat, Nat.reduceAdd, Nat.reduceEqDiff, Nat.reduceLT, Nat.reduceLeDiff, Nat.reduceMul, reduceCtorEq], g5', rfl, by simp; omega, by omega, .inr ⟨by simp, f, by simp; omega, by omega, by rw [← hs']; simp⟩⟩
  rintro ρ2 w3 hf2 ⟨B, k6, g3⟩
  have r1' : ρ2 1 = .int .i64 n := by rw [hf2 1 rfl]; simp (disch := omega) only [wu64, wu32, wu8, fdiv_nn, EO, ↓EP, EQ, EM, ↓reduceIte, Int.reduceAdd, Int.reduceEq, Int.reduceLE, Int.reduceLT, Int.reduceMul, Int.reduceNeg, Int.reducePow, Int.reduceSub, Int.reduceToNat, Nat.reduceAdd, Nat.reduceEqDiff, Nat.reduceLT, Nat.reduceLeDiff, Nat.reduceMul, reduceCtorEq, r1]
  clear hf2
  have hal := headA_len F tag
  generalize headA F tag = H at g3 hal hK
  by_cases h128 : (n : Int) < 128
  · have eh : lenBytes n = [(n : Int)] := if_pos (by omega)
    simp (disch := omega) only [wu64, wu32, wu8, fdiv_nn, EO, ↓EP, EQ, EM, ↓reduceIte, Int.reduceAdd, Int.reduceEq, Int.reduceLE, Int.reduceLT, Int.reduceMul, Int.reduceNeg, Int.reducePow, Int.reduceSub, Int.reduceToNat, Nat.reduceAdd, Nat.reduceEqDiff, Nat.reduceLT, Nat.reduceLeDiff, Nat.reduceMul, reduceCtorEq, k6, r1']
    refine bsl1 fun w4 n4 => ?_
    simp (disch := omega) only [wu64, wu32, wu8, fdiv_nn, EO, ↓EP, EQ, EM, ↓reduceIte, Int.reduceAdd, Int.reduceEq, Int.reduceLE, Int.reduceLT, Int.reduceMul, Int.reduceNeg, Int.reducePow, Int.reduceSub, Int.reduceToNat, Nat.reduceAdd, Nat.reduceEqDiff, Nat.reduceLT, Nat.reduceLeDiff, Nat.reduceMul, reduceCtorEq, k6]
    refine app_num (g3.new n4).sl rfl n4.rdv (by simp; omega) (by omega) fun v5 w5 a5 => ?_
    have g5' := (g3.new n4).apd a5
    rw [← eh] at g5'
    simp (disch := omega) only [wu64, wu32, wu8, fdiv_nn, EO, ↓EP, EQ, EM, ↓reduceIte, Int.reduceAdd, Int.reduceEq, Int.reduceLE, Int.reduceLT, Int.reduceMul, Int.reduceNeg, Int.reducePow, Int.reduceSub, Int.reduceToNat, Nat.reduceAdd, Nat.reduceEqDiff, Nat.reduceLT, Nat.reduceLeDiff, Nat.reduceMul, reduceCtorEq]
    exact hK v5 w5 g5'
  have eh : lenBytes n = [128 + ((bytesBE 4 n).length : Int)] ++ bytesBE 4 n := if_neg (by omega)
  simp (disch := omega) only [wu64, wu32, wu8, fdiv_nn, EO, ↓EP, EQ, EM, ↓reduceIte, Int.reduceAdd, Int.reduceEq, Int.reduceLE, Int.reduceLT, Int.reduceMul, Int.reduceNeg, Int.reducePow, Int.reduceSub, Int.reduceToNat, Nat.reduceAdd, Nat.reduceEqDiff, Nat.reduceLT, Nat.reduceLeDiff, Nat.reduceMul, reduceCtorEq, k6, r1']
  refine loop_inv (fun t ρ w4 => ∃ (x f : Nat) (C : Value) (l : List Int), ρ 1 = .int .i64 x ∧ ρ 10 = C ∧ Gw .u8 w3 w4 C l ∧ t = x ∧ x < 2147483648 ∧ f + l.length = 4 ∧ x < 256 ^ f ∧ bytesBE f x ++ l = bytesBE 4 n) n ⟨n, 4, .slice none 0 0, [], by simp (disch := omega) only [wu64, wu32, wu8, fdiv_nn, EO, ↓EP, EQ, EM, ↓reduceIte, Int.reduceAdd, Int.reduceEq, Int.reduceLE, Int.reduceLT, Int.reduceMul, Int.reduceNeg, Int.reducePow, Int.reduceSub, Int.reduceToNat, Nat.reduceAdd, Nat.reduceEqDiff, Nat.reduceLT, Nat.reduceLeDiff, Nat.reduceMul, reduceCtorEq, r1'], by simp (disch := omega) only [wu64, wu32, wu8, fdiv_nn, EO, ↓EP, EQ, EM, ↓reduceIte, Int.reduceAdd, Int.reduceEq, Int.reduceLE, Int.reduceLT, Int.reduceMul, Int.reduceNeg, Int.reducePow, Int.reduceSub, Int.reduceToNat, Nat.reduceAdd, Nat.reduceEqDiff, Nat.reduceLT, Nat.reduceLeDiff, Nat.reduceMul, reduceCtorEq], Gw.nil .u8 w3, rfl, hn, by simp, by omega, by simp⟩ ?_
  rintro t ρ w4 hf ⟨x, f, C, l, k1, k10, g4, ht, hx, hfl, hxf, hs⟩ N hN
  have k6' : ρ 6 = B := by rw [hf 6 rfl]; simp (disch := omega) only [wu64, wu32, wu8, fdiv_nn, EO, ↓EP, EQ, EM, ↓reduceIte, Int.reduceAdd, Int.reduceEq, Int.reduceLE, Int.reduceLT, Int.reduceMul, Int.reduceNeg, Int.reducePow, Int.reduceSub, Int.reduceToNat, Nat.reduceAdd, Nat.reduceEqDiff, Nat.reduceLT, Nat.reduceLeDiff, Nat.reduceMul, reduceCtorEq, k6]
  clear hf
  obtain ⟨CA, cc, rfl, hcc, hCr⟩ := readn g4.sl rfl
  by_cases hx0 : x = 0
  · rw [hx0] at k1 hs
    rw [be_z', List.nil_append] at hs
    have ew : IntKind.u8.wrap (128 + (l.length : Int)) = 128 + (l.length : Int) := wu8 (by omega) (by omega)
    rw [← hs] at eh
    simp (disch := omega) only [wu64, wu32, wu8, fdiv_nn, EO, ↓EP, EQ, EM, ↓reduceIte, Int.reduceAdd, Int.reduceEq, Int.reduceLE, Int.reduceLT, Int.reduceMul, Int.reduceNeg, Int.reducePow, Int.reduceSub, Int.reduceToNat, Nat.reduceAdd, Nat.reduceEqDiff, Nat.reduceLT, Nat.reduceLeDiff, Nat.reduceMul, reduceCtorEq, k1, k10, k6', ew, Int.natCast_zero]
    refine bsl1 fun w5 n5 => ?_
    simp (disch := omega) only [wu64, wu32, wu8, fdiv_nn, EO, ↓EP, EQ, EM, ↓reduceIte, Int.reduceAdd, Int.reduceEq, Int.reduceLE, Int.reduceLT, Int.reduceMul, Int.reduceNeg, Int.reducePow, Int.reduceSub, Int.reduceToNat, Nat.reduceAdd, Nat.reduceEqDiff, Nat.reduceLT, Nat.reduceLeDiff, Nat.reduceMul, reduceCtorEq, k10, k6', ew]
    have G5 := (g3.step g4.fr).new n5
    refine app_num G5.sl rfl n5.rdv (by simp; omega) (by omega) fun v6 w6 a6 => ?_
    have G6 := G5.apd a6
    simp (disch := omega) only [wu64, wu32, wu8, fdiv_nn, EO, ↓EP, EQ, EM, ↓reduceIte, Int.reduceAdd, Int.reduceEq, Int.reduceLE, Int.reduceLT, Int.reduceMul, Int.reduceNeg, Int.reducePow, Int.reduceSub, Int.reduceToNat, Nat.reduceAdd, Nat.reduceEqDiff, Nat.reduceLT, Nat.reduceLeDiff, Nat.reduceMul, reduceCtorEq, k10]
    refine app_num G6.sl rfl (hCr.nb (n5.fr nob) |>.fr a6.fr ?_) (by simp; omega) (by omega) fun v7 w7 a7 => ?_
    · by_cases hl0 : l = []
      · exact .inl (by rw [hl0]; rfl)
      · refine .inr fun p hp hb => ?_
        have h1 : w3.heap.size ≤ p.block := g4.up p.block (by rw [hp]; rfl)
        have h2 := g3.sl.lt hb
        omega
    · have G7 := G6.apd a7
      rw [List.append_assoc, ← eh] at G7
      simp (disch := omega) only [wu64, wu32, wu8, fdiv_nn, EO, ↓EP, EQ, EM, ↓reduceIte, Int.reduceAdd, Int.reduceEq, Int.reduceLE, Int.reduceLT, Int.reduceMul, Int.reduceNeg, Int.reducePow, Int.reduceSub, Int.reduceToNat, Nat.reduceAdd, Nat.reduceEqDiff, Nat.reduceLT, Nat.reduceLeDiff, Nat.reduceMul, reduceCtorEq]
      exact hK v7 w7 G7
  · obtain ⟨f, rfl⟩ : ∃ g, f = g + 1 := by
      cases f with
      | zero => simp at hxf; omega
      | succ f => exact ⟨f, rfl⟩
    rw [Nat.pow_succ] at hxf
    rw [bytesBE, if_neg hx0] at hs
    have hxp : (0 : Int) < (x : Int) := by omega
    have ewb : IntKind.u8.wrap ((x : Int) % 256) = ((x % 256 : Nat) : Int) := by rw [wu8_mod]; omega
    simp (disch := omega) only [wu64, wu32, wu8, fdiv_nn, EO, ↓EP, EQ, EM, ↓reduceIte, Int.reduceAdd, Int.reduceEq, Int.reduceLE, Int.reduceLT, Int.reduceMul, Int.reduceNeg, Int.reducePow, Int.reduceSub, Int.reduceToNat, Nat.reduceAdd, Nat.reduceEqDiff, Nat.reduceLT, Nat.reduceLeDiff, Nat.reduceMul, reduceCtorEq, k1, k10, ewb]
    refine bsl1 fun w5 n5 => ?_
    simp (disch := omega) only [wu64, wu32, wu8, fdiv_nn, EO, ↓EP, EQ, EM, ↓reduceIte, Int.reduceAdd, Int.reduceEq, Int.reduceLE, Int.reduceLT, Int.reduceMul, Int.reduceNeg, Int.reducePow, Int.reduceSub, Int.reduceToNat, Nat.reduceAdd, Nat.reduceEqDiff, Nat.reduceLT, Nat.reduceLeDiff, Nat.reduceMul, reduceCtorEq, k10]
    refine app_num n5.sl rfl (hCr.nb (n5.fr nob)) (by simp; omega) (by omega) fun v6 w6 a6 => ?_
    have g6 := ((own1 n5).apd a6).from g4.fr
    simp (disch := omega) only [wu64, wu32, wu8, fdiv_nn, EO, ↓EP, EQ, EM, ↓reduceIte, Int.reduceAdd, Int.reduceEq, Int.reduceLE, Int.reduceLT, Int.reduceMul, Int.reduceNeg, Int.reducePow, Int.reduceSub, Int.reduceToNat, Nat.reduceAdd, Nat.reduceEqDiff, Nat.reduceLT, Nat.reduceLeDiff, Nat.reduceMul, reduceCtorEq, k1]
    exact hN (x / 256) _ _ (by omega) ⟨x / 256, f, v6, _, by simp (disch := omega) only [wu64, wu32, wu8, fdiv_nn, EO, ↓EP, EQ, EM, ↓reduceIte, Int.reduceAdd, Int.reduceEq, Int.reduceLE, Int.reduceLT, Int.reduceMul, Int.reduceNeg, Int.reducePow, Int.reduceSub, Int.reduceToNat, Nat.reduceAdd, Nat.reduceEqDiff, Nat.reduceLT, Nat.reduceLeDiff, Nat.reduceMul, reduceCtorEq, k1, Int.natCast_ediv], by simp (disch := omega) only [wu64, wu32, wu8, fdiv_nn, EO, ↓EP, EQ, EM, ↓reduceIte, Int.reduceAdd, Int.reduceEq, Int.reduceLE, Int.reduceLT, Int.reduceMul, Int.reduceNeg, Int.reducePow, Int.reduceSub, Int.reduceToNat, Nat.reduceAdd, Nat.reduceEqDiff, Nat.reduceLT, Nat.reduceLeDiff, Nat.reduceMul, reduceCtorEq], g6, rfl, by omega, by simp; omega, by omega, by rw [← hs]; simp⟩
theorem fillE3 (a b : Int) (c : Bool) : fillL [(0, 1), (1, 1), (2, 1), (3, 1), (4, 1)] #[(.int .i64 0), (.int .i64 0), (.int .i64 0), (.bool false), (.slice none 0 0)] [(1, .int .i64 a), (2, .int .i64 b), (3, .bool c)] = some [(.int .i64 0), (.int .i64 a), (.int .i64 b), (.bool c), (.slice none 0 0)].toArray := by kernel_rfl
set_option maxHeartbeats 4000000 in
theorem rput_vw {w : World} {cls tag : Int} {cons : Bool} {X : Value} {ls : List (List Int)} (hX : LV w X ls) (hcl : -9223372036854775808 ≤ cls ∧ cls ≤ 9223372036854775807) (htg : -9223372036854775808 ≤ tag ∧ tag ≤ 9223372036854775807) (h63 : ls.length ≤ 9223372036854775807)
    (hl63 : ∀ l ∈ ls, l.length ≤ 9223372036854775807) (K : Value → World → Prop)
    (hK : ∀ v' w', Gw .u8 w w' v' (putR cls tag cons ls).1 → K (pr2 v' (putR cls tag cons ls).2) w') : callK Tryd.prog 32 [.int .i64 cls, .int .i64 tag, .bool cons, X] w K := by
  have hX0 := hX.ex
  obtain ⟨A, c, vs, rfl, hc, _⟩ := hX0
  unfold putR at hK
  by_cases hbad : cls < 0 ∨ 3 < cls ∨ tag < 0 ∨ 268435455 < tag ∨ (cls = 0 ∧ tag = 0)
  · rw [if_pos hbad] at hK
    refine call_of Tryd.func32 Code.h32 (by simp [Code.c32]) ?_
    have fin := hK _ w (Gw.nil .u8 w)
    by_cases b1 : cls < 0
    · simp (disch := omega) only [wu64, wu32, wu8, fdiv_nn, EO, ↓EP, EQ, EM, ↓reduceIte, Int.reduceAdd, Int.reduceEq, Int.reduceLE, Int.reduceLT, Int.reduceMul, Int.reduceNeg, Int.reducePow, Int.reduceSub, Int.reduceToNat, Nat.reduceAdd, Nat.reduceEqDiff, Nat.reduceLT, Nat.reduceLeDiff, Nat.reduceMul, reduceCtorEq, Code.c32]
      exact fin
    by_cases b2 : 3 < cls
    · simp (disch := omega) only [wu64, wu32, wu8, fdiv_nn, EO, ↓EP, EQ, EM, ↓reduceIte, Int.reduceAdd, Int.reduceEq, Int.reduceLE, Int.reduceLT, Int.reduceMul, Int.reduceNeg, Int.reducePow, Int.reduceSub, Int.reduceToNat, Nat.reduceAdd, Nat.reduceEqDiff, Nat.reduceLT, Nat.reduceLeDiff, Nat.reduceMul, reduceCtorEq, Code.c32]
      exact fin
    by_cases b3 : tag < 0
    · simp (disch := omega) only [wu64, wu32, wu8, fdiv_nn, EO, ↓EP, EQ, EM, ↓reduceIte, Int.reduceAdd, Int.reduceEq, Int.reduceLE, Int.reduceLT, Int.reduceMul, Int.reduceNeg, Int.reducePow, Int.reduceSub, Int.reduceToNat, Nat.reduceAdd, Nat.reduceEqDiff, Nat.reduceLT, Nat.reduceLeDiff, Nat.reduceMul, reduceCtorEq, Code.c32]
      exact fin
    by_cases b4 : 268435455 < tag
    · simp (disch := omega) only [wu64, wu32, wu8, fdiv_nn, EO, ↓EP, EQ, EM, ↓reduceIte, Int.reduceAdd, Int.reduceEq, Int.reduceLE, Int.reduceLT, Int.reduceMul, Int.reduceNeg, Int.reducePow, Int.reduceSub, Int.reduceToNat, Nat.reduceAdd, Nat.reduceEqDiff, Nat.reduceLT, Nat.reduceLeDiff, Nat.reduceMul, reduceCtorEq, Code.c32]
      exact fin
    have b5 : cls = 0 ∧ tag = 0 := by omega
    rw [b5.1, b5.2]
    simp (disch := omega) only [wu64, wu32, wu8, fdiv_nn, EO, ↓EP, EQ, EM, ↓reduceIte, Int.reduceAdd, Int.reduceEq, Int.reduceLE, Int.reduceLT, Int.reduceMul, Int.reduceNeg, Int.reducePow, Int.reduceSub, Int.reduceToNat, Nat.reduceAdd, Nat.reduceEqDiff, Nat.reduceLT, Nat.reduceLeDiff, Nat.reduceMul, reduceCtorEq, Code.c32]
    exact fin
  rw [if_neg hbad] at hK
  have hc0 : 0 ≤ cls ∧ cls ≤ 3 ∧ 0 ≤ tag ∧ tag ≤ 268435455 := by omega
  have go : ∀ z1 z2 : Bool, decide (cls = 0) = z1 → (z1 = true → decide (tag = 0) = z2) → (z1 = true → z2 = false) → callK Tryd.prog 32 [.int .i64 cls, .int .i64 tag, .bool cons, .slice A ls.length c] w K := by
    intro z1 z2 ez1 ez2 hz
    refine call_of Tryd.func32 Code.h32 (by simp [Code.c32]) ?_
    cases z1
    case' true =>
      have ez2 := ez2 rfl
      have hz := hz rfl
      subst hz
    all_goals
      simp (disch := omega) only [wu64, wu32, wu8, fdiv_nn, EO, ↓EP, EQ, EM, ↓reduceIte, Int.reduceAdd, Int.reduceEq, Int.reduceLE, Int.reduceLT, Int.reduceMul, Int.reduceNeg, Int.reducePow, Int.reduceSub, Int.reduceToNat, Nat.reduceAdd, Nat.reduceEqDiff, Nat.reduceLT, Nat.reduceLeDiff, Nat.reduceMul, reduceCtorEq, Code.c32, ez1, ez2]
      refine loop_inv (fun t ρ w' => ∃ (j : Nat) (B : Value), ρ 11 = .int .i64 j ∧ ρ 10 = B ∧ Gw .u8 w w' B (ls.take j).flatten ∧ j ≤ ls.length ∧ t = ls.length - j ∧ tot ls j ≤ 16777216) ls.length ⟨0, .slice none 0 0, by simp (disch := omega) only [wu64, wu32, wu8, fdiv_nn, EO, ↓EP, EQ, EM, ↓reduceIte, Int.reduceAdd, Int.reduceEq, Int.reduceLE, Int.reduceLT, Int.reduceMul, Int.reduceNeg, Int.reducePow, Int.reduceSub, Int.reduceToNat, Nat.reduceAdd, Nat.reduceEqDiff, Nat.reduceLT, Nat.reduceLeDiff, Nat.reduceMul, reduceCtorEq], by simp (disch := omega) only [wu64, wu32, wu8, fdiv_nn, EO, ↓EP, EQ, EM, ↓reduceIte, Int.reduceAdd, Int.reduceEq, Int.reduceLE, Int.reduceLT, Int.reduceMul, Int.reduceNeg, Int.reducePow, Int.reduceSub, Int.reduceToNat, Nat.reduceAdd, Nat.reduceEqDiff, Nat.reduceLT, Nat.reduceLeDiff, Nat.reduceMul, reduceCtorEq], by simpa using Gw.nil .u8 w, by omega, by omega, by simp [tot]⟩ ?_
      rintro t ρ w1 hf ⟨j, B, k11, k10, g1, hj, rfl, htj⟩ N hN
      have r0 : ρ 0 = .int .i64 cls := by rw [hf 0 rfl]; simp (disch := omega) only [wu64, wu32, wu8, fdiv_nn, EO, ↓EP, EQ, EM, ↓reduceIte, Int.reduceAdd, Int.reduceEq, Int.reduceLE, Int.reduceLT, Int.reduceMul, Int.reduceNeg, Int.reducePow, Int.reduceSub, Int.reduceToNat, Nat.reduceAdd, Nat.reduceEqDiff, Nat.reduceLT, Nat.reduceLeDiff, Nat.reduceMul, reduceCtorEq]
      have r1 : ρ 1 = .int .i64 tag := by rw [hf 1 rfl]; simp (disch := omega) only [wu64, wu32, wu8, fdiv_nn, EO, ↓EP, EQ, EM, ↓reduceIte, Int.reduceAdd, Int.reduceEq, Int.reduceLE, Int.reduceLT, Int.reduceMul, Int.reduceNeg, Int.reducePow, Int.reduceSub, Int.reduceToNat, Nat.reduceAdd, Nat.reduceEqDiff, Nat.reduceLT, Nat.reduceLeDiff, Nat.reduceMul, reduceCtorEq]
      have r2 : ρ 2 = .bool cons := by rw [hf 2 rfl]; simp (disch := omega) only [wu64, wu32, wu8, fdiv_nn, EO, ↓EP, EQ, EM, ↓reduceIte, Int.reduceAdd, Int.reduceEq, Int.reduceLE, Int.reduceLT, Int.reduceMul, Int.reduceNeg, Int.reducePow, Int.reduceSub, Int.reduceToNat, Nat.reduceAdd, Nat.reduceEqDiff, Nat.reduceLT, Nat.reduceLeDiff, Nat.reduceMul, reduceCtorEq]
      have r3 : ρ 3 = .slice A ls.length c := by rw [hf 3 rfl]; simp (disch := omega) only [wu64, wu32, wu8, fdiv_nn, EO, ↓EP, EQ, EM, ↓reduceIte, Int.reduceAdd, Int.reduceEq, Int.reduceLE, Int.reduceLT, Int.reduceMul, Int.reduceNeg, Int.reducePow, Int.reduceSub, Int.reduceToNat, Nat.reduceAdd, Nat.reduceEqDiff, Nat.reduceLT, Nat.reduceLeDiff, Nat.reduceMul, reduceCtorEq]
      clear hf
      have hfl := flat_len ls j
      obtain ⟨BA, bc, rfl, hbc, hBr⟩ := readn g1.sl hfl
      by_cases hjl : (j : Int) < (ls.length : Int)
      · obtain ⟨ad, dA, dc, rfl, _, cj, hdc, hdr⟩ := (hX.nb g1.fr).at (i := j) (by omega)
        have hlj := hl63 ls[j] (List.getElem_mem (by omega))
        have hts := tot_succ (ls := ls) (j := j) (by omega)
        by_cases hbig : 16777216 - (tot ls j : Int) < (ls[j].length : Int)
        · have htl := tot_le ls (j + 1)
          rw [if_pos (by omega)] at hK
          simp (disch := omega) only [wu64, wu32, wu8, fdiv_nn, EO, ↓EP, EQ, EM, ↓reduceIte, Int.reduceAdd, Int.reduceEq, Int.reduceLE, Int.reduceLT, Int.reduceMul, Int.reduceNeg, Int.reducePow, Int.reduceSub, Int.reduceToNat, Nat.reduceAdd, Nat.reduceEqDiff, Nat.reduceLT, Nat.reduceLeDiff, Nat.reduceMul, reduceCtorEq, k11, k10, r3, cj]
          exact hK _ w1 ((Gw.nil .u8 w1).from g1.fr)
        · simp (disch := omega) only [wu64, wu32, wu8, fdiv_nn, EO, ↓EP, EQ, EM, ↓reduceIte, Int.reduceAdd, Int.reduceEq, Int.reduceLE, Int.reduceLT, Int.reduceMul, Int.reduceNeg, Int.reducePow, Int.reduceSub, Int.reduceToNat, Nat.reduceAdd, Nat.reduceEqDiff, Nat.reduceLT, Nat.reduceLeDiff, Nat.reduceMul, reduceCtorEq, k11, k10, r3, cj]
          refine app_num g1.sl rfl hdr (by omega) (by omega) fun v2 w2 a2 => ?_
          have g2 := g1.apd a2
          rw [← flat_succ (by omega)] at g2
          simp (disch := omega) only [wu64, wu32, wu8, fdiv_nn, EO, ↓EP, EQ, EM, ↓reduceIte, Int.reduceAdd, Int.reduceEq, Int.reduceLE, Int.reduceLT, Int.reduceMul, Int.reduceNeg, Int.reducePow, Int.reduceSub, Int.reduceToNat, Nat.reduceAdd, Nat.reduceEqDiff, Nat.reduceLT, Nat.reduceLeDiff, Nat.reduceMul, reduceCtorEq, k11]
          exact hN (ls.length - (j + 1)) _ _ (by omega) ⟨j + 1, v2, by simp (disch := omega) only [wu64, wu32, wu8, fdiv_nn, EO, ↓EP, EQ, EM, ↓reduceIte, Int.reduceAdd, Int.reduceEq, Int.reduceLE, Int.reduceLT, Int.reduceMul, Int.reduceNeg, Int.reducePow, Int.reduceSub, Int.reduceToNat, Nat.reduceAdd, Nat.reduceEqDiff, Nat.reduceLT, Nat.reduceLeDiff, Nat.reduceMul, reduceCtorEq, k11, Int.natCast_add], by simp (disch := omega) only [wu64, wu32, wu8, fdiv_nn, EO, ↓EP, EQ, EM, ↓reduceIte, Int.reduceAdd, Int.reduceEq, Int.reduceLE, Int.reduceLT, Int.reduceMul, Int.reduceNeg, Int.reducePow, Int.reduceSub, Int.reduceToNat, Nat.reduceAdd, Nat.reduceEqDiff, Nat.reduceLT, Nat.reduceLeDiff, Nat.reduceMul, reduceCtorEq], g2, by omega, rfl, by omega⟩
      have hje : j = ls.length := by omega
      subst hje
      have hta := tot_all ls
      rw [List.take_of_length_le (Nat.le_refl _)] at g1 hBr
      rw [hta] at htj k10 g1 hfl
      rw [if_neg (by omega)] at hK
      generalize (ls.map List.length).sum = n at hK htj k10 g1 hfl hta hbc
      clear hN
      simp (disch := omega) only [wu64, wu32, wu8, fdiv_nn, EO, ↓EP, EQ, EM, ↓reduceIte, Int.reduceAdd, Int.reduceEq, Int.reduceLE, Int.reduceLT, Int.reduceMul, Int.reduceNeg, Int.reducePow, Int.reduceSub, Int.reduceToNat, Nat.reduceAdd, Nat.reduceEqDiff, Nat.reduceLT, Nat.reduceLeDiff, Nat.reduceMul, reduceCtorEq, k11, k10, r0, r1, r2, r3]
      refine ⟨_, fillE3 _ _ _, ?_⟩
      simp (disch := omega) only [wu64, wu32, wu8, fdiv_nn, EO, ↓EP, EQ, EM, ↓reduceIte, Int.reduceAdd, Int.reduceEq, Int.reduceLE, Int.reduceLT, Int.reduceMul, Int.reduceNeg, Int.reducePow, Int.reduceSub, Int.reduceToNat, Nat.reduceAdd, Nat.reduceEqDiff, Nat.reduceLT, Nat.reduceLeDiff, Nat.reduceMul, reduceCtorEq, k10]
      refine rhead_vw ⟨hc0.1, hc0.2.1⟩ ⟨hc0.2.2.1, hc0.2.2.2⟩ (by omega) _ fun v2 w2 g2 => ?_
      have hlen : (headR cls tag cons n).length ≤ 17 := by
        rw [headR_eq, List.length_append]
        have := headA_len (firstR cls cons) tag
        have := lenB_len n
        omega
      simp (disch := omega) only [wu64, wu32, wu8, fdiv_nn, EO, ↓EP, EQ, EM, ↓reduceIte, Int.reduceAdd, Int.reduceEq, Int.reduceLE, Int.reduceLT, Int.reduceMul, Int.reduceNeg, Int.reducePow, Int.reduceSub, Int.reduceToNat, Nat.reduceAdd, Nat.reduceEqDiff, Nat.reduceLT, Nat.reduceLeDiff, Nat.reduceMul, reduceCtorEq, k10]
      refine app_num g2.sl (by rw [List.take_of_length_le (Nat.le_refl _)] at hfl; exact hfl) (hBr.nb g2.fr) (by rw [List.take_of_length_le (Nat.le_refl _)] at hfl; omega) (by omega) fun v3 w3 a3 => ?_
      have g3 := (g2.apd a3).from g1.fr
      simp (disch := omega) only [wu64, wu32, wu8, fdiv_nn, EO, ↓EP, EQ, EM, ↓reduceIte, Int.reduceAdd, Int.reduceEq, Int.reduceLE, Int.reduceLT, Int.reduceMul, Int.reduceNeg, Int.reducePow, Int.reduceSub, Int.reduceToNat, Nat.reduceAdd, Nat.reduceEqDiff, Nat.reduceLT, Nat.reduceLeDiff, Nat.reduceMul, reduceCtorEq]
      exact hK v3 w3 g3
  refine go _ _ rfl (fun _ => rfl) fun h => ?_
  have : cls = 0 := of_decide_eq_true h
  exact decide_eq_false (by omega)
end Go.Proofs.YtcflokckfjkdpaaDoor.Der

/- The statement on elements that are laid, walked. -/
set_option linter.unusedVariables false
set_option linter.unusedSimpArgs false
namespace Go.Proofs.YtcflokckfjkdpaaDoor.Der
open Go Go.RowKit Go.Proofs Go.Proofs.YtcflokckfjkdpaaDoor.Eng Go.Proofs.YtcflokckfjkdpaaDoor.Code
set_option maxRecDepth 100000
attribute [local irreducible] callK S.W opsW scrW scrT

theorem Lnts.lv {w0 w : World} {X : Value} {l : List (List Int)} {vs : List Value} (h : Spec.Lnts w0 w X l vs) : LV w X l := by
  obtain ⟨A', c', e, hc, hr⟩ := h.g.sl.read
  subst e
  refine ⟨A', c', vs, by rw [h.len], by rw [← h.len]; exact hc, hr, h.len, fun i v p h1 h2 => ?_⟩
  obtain ⟨b, c, rfl, hc, _, hr⟩ := (h.each i p v h2 h1).read
  exact ⟨_, c, rfl, by omega, hr⟩
theorem same_bytes {w : World} {v u : Value} {l : List Int} (hv : Vw .u8 w v l) (hu : Vw .u8 w u l) (h63 : l.length ≤ 140737488355320) (K : Value → World → Prop) (hK : ∀ w', Fr w w' nob → K (.bool true) w') : callK Tryd.prog 18 [v, u] w K := by
  obtain ⟨A, c, rfl, _, hA⟩ := hv
  obtain ⟨B, d, rfl, _, hB⟩ := hu
  refine Spec.same_spec rfl rfl hA hB (by omega) _ fun w' f => ?_
  rw [decide_eq_true rfl]
  exact hK w' f
theorem at_i {α : Type} {l : List α} {i : Nat} (h : i < l.length) : l[i]? = some l[i] := List.getElem?_eq_getElem h
theorem le_sum {ls : List (List Int)} {i : Nat} (h : i < ls.length) : ls[i].length ≤ (ls.map List.length).sum := by
  have h1 := tot_succ h
  have h2 := tot_le ls (i + 1)
  omega
theorem put_len (cls tag : Int) (cons : Bool) (ls : List (List Int)) : (putR cls tag cons ls).1.length ≤ 17 + (ls.map List.length).sum := by
  unfold putR
  split
  · simp
  · split
    · simp
    · have h1 := headA_len (firstR cls cons) tag
      have h2 := lenB_len (ls.map List.length).sum
      rw [headR_eq]
      simp only [List.length_append, List.length_flatten]
      omega
set_option maxHeartbeats 4000000 in
theorem derputs_vw {w : World} (hT : TbP w) {cls tag : Int} {cons : Bool} {A : Option Addr} {c : Nat} {ls : List (List Int)} (hX : LV w (.slice A ls.length c) ls) (hcl : -9223372036854775808 ≤ cls ∧ cls ≤ 9223372036854775807) (htg : -9223372036854775808 ≤ tag ∧ tag ≤ 9223372036854775807) (h63 : ls.length ≤ 9223372036854775807)
    (hl63 : ∀ l ∈ ls, l.length ≤ 9223372036854775807) (K : Value → World → Prop) (hK : ∀ w', Fr w w' nob → K (.bool true) w') : callK Tryd.prog 7 [.int .i64 cls, .int .i64 tag, .bool cons, .slice A ls.length c] w K := by
  refine call_of Tryd.func7 Code.h7 (by simp [Code.c7]) ?_
  simp (disch := omega) only [wu64, wu32, wu8, fdiv_nn, EO, ↓EP, EQ, EM, ↓reduceIte, Int.reduceAdd, Int.reduceEq, Int.reduceLE, Int.reduceLT, Int.reduceMul, Int.reduceNeg, Int.reducePow, Int.reduceSub, Int.reduceToNat, Nat.reduceAdd, Nat.reduceEqDiff, Nat.reduceLT, Nat.reduceLeDiff, Nat.reduceMul, reduceCtorEq, Code.c7]
  refine loop_inv (fun t ρ w' => w' = w ∧ ∃ j : Nat, ρ 10 = .int .i64 j ∧ ρ 9 = .int .i64 (tot ls j : Int) ∧ j ≤ ls.length ∧ t = ls.length - j ∧ tot ls j ≤ 16384 ∧ j ≤ 1001) ls.length ⟨rfl, 0, by simp (disch := omega) only [wu64, wu32, wu8, fdiv_nn, EO, ↓EP, EQ, EM, ↓reduceIte, Int.reduceAdd, Int.reduceEq, Int.reduceLE, Int.reduceLT, Int.reduceMul, Int.reduceNeg, Int.reducePow, Int.reduceSub, Int.reduceToNat, Nat.reduceAdd, Nat.reduceEqDiff, Nat.reduceLT, Nat.reduceLeDiff, Nat.reduceMul, reduceCtorEq], by simp (disch := omega) only [wu64, wu32, wu8, fdiv_nn, EO, ↓EP, EQ, EM, ↓reduceIte, Int.reduceAdd, Int.reduceEq, Int.reduceLE, Int.reduceLT, Int.reduceMul, Int.reduceNeg, Int.reducePow, Int.reduceSub, Int.reduceToNat, Nat.reduceAdd, Nat.reduceEqDiff, Nat.reduceLT, Nat.reduceLeDiff, Nat.reduceMul, reduceCtorEq]; rfl, by omega, by omega, by simp [tot], by omega⟩ ?_
  rintro t ρ w' hf ⟨rfl, j, k10, k9, hj, rfl, htj, hj1⟩ N hN
  have r0 : ρ 0 = .int .i64 cls := by rw [hf 0 rfl]; simp (disch := omega) only [wu64, wu32, wu8, fdiv_nn, EO, ↓EP, EQ, EM, ↓reduceIte, Int.reduceAdd, Int.reduceEq, Int.reduceLE, Int.reduceLT, Int.reduceMul, Int.reduceNeg, Int.reducePow, Int.reduceSub, Int.reduceToNat, Nat.reduceAdd, Nat.reduceEqDiff, Nat.reduceLT, Nat.reduceLeDiff, Nat.reduceMul, reduceCtorEq]
  have r1 : ρ 1 = .int .i64 tag := by rw [hf 1 rfl]; simp (disch := omega) only [wu64, wu32, wu8, fdiv_nn, EO, ↓EP, EQ, EM, ↓reduceIte, Int.reduceAdd, Int.reduceEq, Int.reduceLE, Int.reduceLT, Int.reduceMul, Int.reduceNeg, Int.reducePow, Int.reduceSub, Int.reduceToNat, Nat.reduceAdd, Nat.reduceEqDiff, Nat.reduceLT, Nat.reduceLeDiff, Nat.reduceMul, reduceCtorEq]
  have r2 : ρ 2 = .bool cons := by rw [hf 2 rfl]; simp (disch := omega) only [wu64, wu32, wu8, fdiv_nn, EO, ↓EP, EQ, EM, ↓reduceIte, Int.reduceAdd, Int.reduceEq, Int.reduceLE, Int.reduceLT, Int.reduceMul, Int.reduceNeg, Int.reducePow, Int.reduceSub, Int.reduceToNat, Nat.reduceAdd, Nat.reduceEqDiff, Nat.reduceLT, Nat.reduceLeDiff, Nat.reduceMul, reduceCtorEq]
  have r3 : ρ 3 = .slice A ls.length c := by rw [hf 3 rfl]; simp (disch := omega) only [wu64, wu32, wu8, fdiv_nn, EO, ↓EP, EQ, EM, ↓reduceIte, Int.reduceAdd, Int.reduceEq, Int.reduceLE, Int.reduceLT, Int.reduceMul, Int.reduceNeg, Int.reducePow, Int.reduceSub, Int.reduceToNat, Nat.reduceAdd, Nat.reduceEqDiff, Nat.reduceLT, Nat.reduceLeDiff, Nat.reduceMul, reduceCtorEq]
  clear hf
  by_cases hjl : (j : Int) < (ls.length : Int)
  · obtain ⟨ad, dA, dc, rfl, _, cj, hdc, hdr⟩ := hX.at (i := j) (by omega)
    have hlj := hl63 ls[j] (List.getElem_mem (by omega))
    have hts := tot_succ (ls := ls) (j := j) (by omega)
    by_cases hbig : 16384 - (tot ls j : Int) < (ls[j].length : Int)
    · simp (disch := omega) only [wu64, wu32, wu8, fdiv_nn, EO, ↓EP, EQ, EM, ↓reduceIte, Int.reduceAdd, Int.reduceEq, Int.reduceLE, Int.reduceLT, Int.reduceMul, Int.reduceNeg, Int.reducePow, Int.reduceSub, Int.reduceToNat, Nat.reduceAdd, Nat.reduceEqDiff, Nat.reduceLT, Nat.reduceLeDiff, Nat.reduceMul, reduceCtorEq, k10, k9, r3, cj]
      refine live_vw hT _ fun w1 f1 => ?_
      simp (disch := omega) only [wu64, wu32, wu8, fdiv_nn, EO, ↓EP, EQ, EM, ↓reduceIte, Int.reduceAdd, Int.reduceEq, Int.reduceLE, Int.reduceLT, Int.reduceMul, Int.reduceNeg, Int.reducePow, Int.reduceSub, Int.reduceToNat, Nat.reduceAdd, Nat.reduceEqDiff, Nat.reduceLT, Nat.reduceLeDiff, Nat.reduceMul, reduceCtorEq]
      exact hK w1 f1
    by_cases h1000 : (1000 : Int) < (j : Int)
    · simp (disch := omega) only [wu64, wu32, wu8, fdiv_nn, EO, ↓EP, EQ, EM, ↓reduceIte, Int.reduceAdd, Int.reduceEq, Int.reduceLE, Int.reduceLT, Int.reduceMul, Int.reduceNeg, Int.reducePow, Int.reduceSub, Int.reduceToNat, Nat.reduceAdd, Nat.reduceEqDiff, Nat.reduceLT, Nat.reduceLeDiff, Nat.reduceMul, reduceCtorEq, k10, k9, r3, cj]
      refine live_vw hT _ fun w1 f1 => ?_
      simp (disch := omega) only [wu64, wu32, wu8, fdiv_nn, EO, ↓EP, EQ, EM, ↓reduceIte, Int.reduceAdd, Int.reduceEq, Int.reduceLE, Int.reduceLT, Int.reduceMul, Int.reduceNeg, Int.reducePow, Int.reduceSub, Int.reduceToNat, Nat.reduceAdd, Nat.reduceEqDiff, Nat.reduceLT, Nat.reduceLeDiff, Nat.reduceMul, reduceCtorEq]
      exact hK w1 f1
    · simp (disch := omega) only [wu64, wu32, wu8, fdiv_nn, EO, ↓EP, EQ, EM, ↓reduceIte, Int.reduceAdd, Int.reduceEq, Int.reduceLE, Int.reduceLT, Int.reduceMul, Int.reduceNeg, Int.reducePow, Int.reduceSub, Int.reduceToNat, Nat.reduceAdd, Nat.reduceEqDiff, Nat.reduceLT, Nat.reduceLeDiff, Nat.reduceMul, reduceCtorEq, k10, k9, r3, cj]
      exact hN (ls.length - (j + 1)) _ _ (by omega) ⟨rfl, j + 1, by simp (disch := omega) only [wu64, wu32, wu8, fdiv_nn, EO, ↓EP, EQ, EM, ↓reduceIte, Int.reduceAdd, Int.reduceEq, Int.reduceLE, Int.reduceLT, Int.reduceMul, Int.reduceNeg, Int.reducePow, Int.reduceSub, Int.reduceToNat, Nat.reduceAdd, Nat.reduceEqDiff, Nat.reduceLT, Nat.reduceLeDiff, Nat.reduceMul, reduceCtorEq, k10, Int.natCast_add], by simp (disch := omega) only [wu64, wu32, wu8, fdiv_nn, EO, ↓EP, EQ, EM, ↓reduceIte, Int.reduceAdd, Int.reduceEq, Int.reduceLE, Int.reduceLT, Int.reduceMul, Int.reduceNeg, Int.reducePow, Int.reduceSub, Int.reduceToNat, Nat.reduceAdd, Nat.reduceEqDiff, Nat.reduceLT, Nat.reduceLeDiff, Nat.reduceMul, reduceCtorEq, k9, hts, Int.natCast_add], by omega, rfl, by omega, by omega⟩
  have hje : j = ls.length := by omega
  subst hje
  rw [tot_all] at k9 htj
  clear hN
  simp (disch := omega) only [wu64, wu32, wu8, fdiv_nn, EO, ↓EP, EQ, EM, ↓reduceIte, Int.reduceAdd, Int.reduceEq, Int.reduceLE, Int.reduceLT, Int.reduceMul, Int.reduceNeg, Int.reducePow, Int.reduceSub, Int.reduceToNat, Nat.reduceAdd, Nat.reduceEqDiff, Nat.reduceLT, Nat.reduceLeDiff, Nat.reduceMul, reduceCtorEq, k10, k9, r3]
  refine loop_inv (fun t ρ2 w1 => ∃ (k : Nat) (X : Value) (vs : List Value), ρ2 12 = .int .i64 k ∧ ρ2 11 = X ∧ k ≤ ls.length ∧ t = ls.length - k ∧ Spec.Lnts w' w1 X (ls.take k) vs) ls.length ⟨0, .slice none 0 0, [], by simp (disch := omega) only [wu64, wu32, wu8, fdiv_nn, EO, ↓EP, EQ, EM, ↓reduceIte, Int.reduceAdd, Int.reduceEq, Int.reduceLE, Int.reduceLT, Int.reduceMul, Int.reduceNeg, Int.reducePow, Int.reduceSub, Int.reduceToNat, Nat.reduceAdd, Nat.reduceEqDiff, Nat.reduceLT, Nat.reduceLeDiff, Nat.reduceMul, reduceCtorEq], by simp (disch := omega) only [wu64, wu32, wu8, fdiv_nn, EO, ↓EP, EQ, EM, ↓reduceIte, Int.reduceAdd, Int.reduceEq, Int.reduceLE, Int.reduceLT, Int.reduceMul, Int.reduceNeg, Int.reducePow, Int.reduceSub, Int.reduceToNat, Nat.reduceAdd, Nat.reduceEqDiff, Nat.reduceLT, Nat.reduceLeDiff, Nat.reduceMul, reduceCtorEq], by omega, rfl, Spec.Lnts.nil w'⟩ ?_
  rintro t ρ2 w1 hf ⟨k, X, vs, k12, k11, hk, rfl, L⟩ N hN
  have s0 : ρ2 0 = .int .i64 cls := by rw [hf 0 rfl]; simp (disch := omega) only [wu64, wu32, wu8, fdiv_nn, EO, ↓EP, EQ, EM, ↓reduceIte, Int.reduceAdd, Int.reduceEq, Int.reduceLE, Int.reduceLT, Int.reduceMul, Int.reduceNeg, Int.reducePow, Int.reduceSub, Int.reduceToNat, Nat.reduceAdd, Nat.reduceEqDiff, Nat.reduceLT, Nat.reduceLeDiff, Nat.reduceMul, reduceCtorEq, r0]
  have s1 : ρ2 1 = .int .i64 tag := by rw [hf 1 rfl]; simp (disch := omega) only [wu64, wu32, wu8, fdiv_nn, EO, ↓EP, EQ, EM, ↓reduceIte, Int.reduceAdd, Int.reduceEq, Int.reduceLE, Int.reduceLT, Int.reduceMul, Int.reduceNeg, Int.reducePow, Int.reduceSub, Int.reduceToNat, Nat.reduceAdd, Nat.reduceEqDiff, Nat.reduceLT, Nat.reduceLeDiff, Nat.reduceMul, reduceCtorEq, r1]
  have s2 : ρ2 2 = .bool cons := by rw [hf 2 rfl]; simp (disch := omega) only [wu64, wu32, wu8, fdiv_nn, EO, ↓EP, EQ, EM, ↓reduceIte, Int.reduceAdd, Int.reduceEq, Int.reduceLE, Int.reduceLT, Int.reduceMul, Int.reduceNeg, Int.reducePow, Int.reduceSub, Int.reduceToNat, Nat.reduceAdd, Nat.reduceEqDiff, Nat.reduceLT, Nat.reduceLeDiff, Nat.reduceMul, reduceCtorEq, r2]
  have s3 : ρ2 3 = .slice A ls.length c := by rw [hf 3 rfl]; simp (disch := omega) only [wu64, wu32, wu8, fdiv_nn, EO, ↓EP, EQ, EM, ↓reduceIte, Int.reduceAdd, Int.reduceEq, Int.reduceLE, Int.reduceLT, Int.reduceMul, Int.reduceNeg, Int.reducePow, Int.reduceSub, Int.reduceToNat, Nat.reduceAdd, Nat.reduceEqDiff, Nat.reduceLT, Nat.reduceLeDiff, Nat.reduceMul, reduceCtorEq, r3]
  clear hf
  have hlen : vs.length = k := by rw [L.len]; simp; omega
  by_cases hkl : (k : Int) < (ls.length : Int)
  · obtain ⟨ad, dA, dc, rfl, _, ck, hdc, hdr⟩ := (hX.nb L.g.fr).at (i := k) (by omega)
    have hlk := le_sum (ls := ls) (i := k) (by omega)
    simp (disch := omega) only [wu64, wu32, wu8, fdiv_nn, EO, ↓EP, EQ, EM, ↓reduceIte, Int.reduceAdd, Int.reduceEq, Int.reduceLE, Int.reduceLT, Int.reduceMul, Int.reduceNeg, Int.reducePow, Int.reduceSub, Int.reduceToNat, Nat.reduceAdd, Nat.reduceEqDiff, Nat.reduceLT, Nat.reduceLeDiff, Nat.reduceMul, reduceCtorEq, k12, k11, s3, ck]
    refine Spec.lent_spec rfl hdr (by omega) _ fun v w2 hv f2 => ?_
    have L2 := L.nb f2
    have hv' := hv.from L.g.fr.size
    obtain ⟨b, pad, rfl, hB, hbb⟩ := hv.ex
    simp (disch := omega) only [wu64, wu32, wu8, fdiv_nn, EO, ↓EP, EQ, EM, ↓reduceIte, Int.reduceAdd, Int.reduceEq, Int.reduceLE, Int.reduceLT, Int.reduceMul, Int.reduceNeg, Int.reducePow, Int.reduceSub, Int.reduceToNat, Nat.reduceAdd, Nat.reduceEqDiff, Nat.reduceLT, Nat.reduceLeDiff, Nat.reduceMul, reduceCtorEq, k11]
    refine bslS1 fun w3 n3 => ?_
    have L3 := L2.nb (n3.fr nob)
    have hv3 := hv'.fr (n3.fr nob) fun _ _ x => x
    simp (disch := omega) only [wu64, wu32, wu8, fdiv_nn, EO, ↓EP, EQ, EM, ↓reduceIte, Int.reduceAdd, Int.reduceEq, Int.reduceLE, Int.reduceLT, Int.reduceMul, Int.reduceNeg, Int.reducePow, Int.reduceSub, Int.reduceToNat, Nat.reduceAdd, Nat.reduceEqDiff, Nat.reduceLT, Nat.reduceLeDiff, Nat.reduceMul, reduceCtorEq, k11]
    refine app_g L3.g.sl rfl rfl (by simp [Value.oneCell']) n3.rdv (by omega) (by omega) (by omega) fun X' w4 a4 => ?_
    have L4 := L3.add (p := ls[k]) hv3 (fun b' e => by
      cases e
      intro e
      have := L.g.sl.lt e
      have e' : (⟨b, 0, none⟩ : Addr).block = b := rfl
      omega) a4
    simp (disch := omega) only [wu64, wu32, wu8, fdiv_nn, EO, ↓EP, EQ, EM, ↓reduceIte, Int.reduceAdd, Int.reduceEq, Int.reduceLE, Int.reduceLT, Int.reduceMul, Int.reduceNeg, Int.reducePow, Int.reduceSub, Int.reduceToNat, Nat.reduceAdd, Nat.reduceEqDiff, Nat.reduceLT, Nat.reduceLeDiff, Nat.reduceMul, reduceCtorEq, k12]
    refine hN (ls.length - (k + 1)) _ _ (by omega) ⟨k + 1, X', vs ++ [.slice (some ⟨b, 0, none⟩) ls[k].length (ls[k].length + (2 + pad.length))], by simp (disch := omega) only [wu64, wu32, wu8, fdiv_nn, EO, ↓EP, EQ, EM, ↓reduceIte, Int.reduceAdd, Int.reduceEq, Int.reduceLE, Int.reduceLT, Int.reduceMul, Int.reduceNeg, Int.reducePow, Int.reduceSub, Int.reduceToNat, Nat.reduceAdd, Nat.reduceEqDiff, Nat.reduceLT, Nat.reduceLeDiff, Nat.reduceMul, reduceCtorEq, k12, Int.natCast_add], by simp (disch := omega) only [wu64, wu32, wu8, fdiv_nn, EO, ↓EP, EQ, EM, ↓reduceIte, Int.reduceAdd, Int.reduceEq, Int.reduceLE, Int.reduceLT, Int.reduceMul, Int.reduceNeg, Int.reducePow, Int.reduceSub, Int.reduceToNat, Nat.reduceAdd, Nat.reduceEqDiff, Nat.reduceLT, Nat.reduceLeDiff, Nat.reduceMul, reduceCtorEq], by omega, rfl, ?_⟩
    rw [take_one (by omega)]
    exact L4
  have hke : k = ls.length := by omega
  subst hke
  clear hN
  rw [List.take_of_length_le (Nat.le_refl _)] at L
  simp (disch := omega) only [wu64, wu32, wu8, fdiv_nn, EO, ↓EP, EQ, EM, ↓reduceIte, Int.reduceAdd, Int.reduceEq, Int.reduceLE, Int.reduceLT, Int.reduceMul, Int.reduceNeg, Int.reducePow, Int.reduceSub, Int.reduceToNat, Nat.reduceAdd, Nat.reduceEqDiff, Nat.reduceLT, Nat.reduceLeDiff, Nat.reduceMul, reduceCtorEq, k12, k11, s0, s1, s2, s3]
  refine put_vw (Lnts.lv L) hcl htg h63 hl63 _ fun v2 w2 g2 => ?_
  have pl := put_len cls tag cons ls
  simp only [pr2]
  simp (disch := omega) only [wu64, wu32, wu8, fdiv_nn, EO, ↓EP, EQ, EM, ↓reduceIte, Int.reduceAdd, Int.reduceEq, Int.reduceLE, Int.reduceLT, Int.reduceMul, Int.reduceNeg, Int.reducePow, Int.reduceSub, Int.reduceToNat, Nat.reduceAdd, Nat.reduceEqDiff, Nat.reduceLT, Nat.reduceLeDiff, Nat.reduceMul, reduceCtorEq, s0, s1, s2, s3]
  have F2 := L.g.fr.nb g2.fr
  refine rput_vw (hX.nb F2) hcl htg h63 hl63 _ fun v3 w3 g3 => ?_
  simp only [pr2]
  have L3 := (L.nb g2.fr).nb g3.fr
  have F3 := F2.nb g3.fr
  have V2 := g2.vw.nb g3.fr
  have V3 := g3.vw
  simp (disch := omega) only [wu64, wu32, wu8, fdiv_nn, EO, ↓EP, EQ, EM, ↓reduceIte, Int.reduceAdd, Int.reduceEq, Int.reduceLE, Int.reduceLT, Int.reduceMul, Int.reduceNeg, Int.reducePow, Int.reduceSub, Int.reduceToNat, Nat.reduceAdd, Nat.reduceEqDiff, Nat.reduceLT, Nat.reduceLeDiff, Nat.reduceMul, reduceCtorEq, k11, s3]
  refine loop_inv (fun t ρ4 w4 => ∃ k : Nat, ρ4 17 = .int .i64 k ∧ k ≤ ls.length ∧ t = ls.length - k ∧ Fr w3 w4 nob) ls.length ⟨0, by simp (disch := omega) only [wu64, wu32, wu8, fdiv_nn, EO, ↓EP, EQ, EM, ↓reduceIte, Int.reduceAdd, Int.reduceEq, Int.reduceLE, Int.reduceLT, Int.reduceMul, Int.reduceNeg, Int.reducePow, Int.reduceSub, Int.reduceToNat, Nat.reduceAdd, Nat.reduceEqDiff, Nat.reduceLT, Nat.reduceLeDiff, Nat.reduceMul, reduceCtorEq], by omega, rfl, Fr.refl _ _⟩ ?_
  rintro t ρ4 w4 hf ⟨k, k17, hk, rfl, f4⟩ N hN
  have q3 : ρ4 3 = .slice A ls.length c := by rw [hf 3 rfl]; simp (disch := omega) only [wu64, wu32, wu8, fdiv_nn, EO, ↓EP, EQ, EM, ↓reduceIte, Int.reduceAdd, Int.reduceEq, Int.reduceLE, Int.reduceLT, Int.reduceMul, Int.reduceNeg, Int.reducePow, Int.reduceSub, Int.reduceToNat, Nat.reduceAdd, Nat.reduceEqDiff, Nat.reduceLT, Nat.reduceLeDiff, Nat.reduceMul, reduceCtorEq, s3]
  have q11 : ρ4 11 = X := by rw [hf 11 rfl]; simp (disch := omega) only [wu64, wu32, wu8, fdiv_nn, EO, ↓EP, EQ, EM, ↓reduceIte, Int.reduceAdd, Int.reduceEq, Int.reduceLE, Int.reduceLT, Int.reduceMul, Int.reduceNeg, Int.reducePow, Int.reduceSub, Int.reduceToNat, Nat.reduceAdd, Nat.reduceEqDiff, Nat.reduceLT, Nat.reduceLeDiff, Nat.reduceMul, reduceCtorEq, k11]
  have q13 : ρ4 13 = v2 := by rw [hf 13 rfl]; simp (disch := omega) only [wu64, wu32, wu8, fdiv_nn, EO, ↓EP, EQ, EM, ↓reduceIte, Int.reduceAdd, Int.reduceEq, Int.reduceLE, Int.reduceLT, Int.reduceMul, Int.reduceNeg, Int.reducePow, Int.reduceSub, Int.reduceToNat, Nat.reduceAdd, Nat.reduceEqDiff, Nat.reduceLT, Nat.reduceLeDiff, Nat.reduceMul, reduceCtorEq]
  have q14 : ρ4 14 = .int .i64 (putR cls tag cons ls).2 := by rw [hf 14 rfl]; simp (disch := omega) only [wu64, wu32, wu8, fdiv_nn, EO, ↓EP, EQ, EM, ↓reduceIte, Int.reduceAdd, Int.reduceEq, Int.reduceLE, Int.reduceLT, Int.reduceMul, Int.reduceNeg, Int.reducePow, Int.reduceSub, Int.reduceToNat, Nat.reduceAdd, Nat.reduceEqDiff, Nat.reduceLT, Nat.reduceLeDiff, Nat.reduceMul, reduceCtorEq]
  have q15 : ρ4 15 = v3 := by rw [hf 15 rfl]; simp (disch := omega) only [wu64, wu32, wu8, fdiv_nn, EO, ↓EP, EQ, EM, ↓reduceIte, Int.reduceAdd, Int.reduceEq, Int.reduceLE, Int.reduceLT, Int.reduceMul, Int.reduceNeg, Int.reducePow, Int.reduceSub, Int.reduceToNat, Nat.reduceAdd, Nat.reduceEqDiff, Nat.reduceLT, Nat.reduceLeDiff, Nat.reduceMul, reduceCtorEq]
  have q16 : ρ4 16 = .int .i64 (putR cls tag cons ls).2 := by rw [hf 16 rfl]; simp (disch := omega) only [wu64, wu32, wu8, fdiv_nn, EO, ↓EP, EQ, EM, ↓reduceIte, Int.reduceAdd, Int.reduceEq, Int.reduceLE, Int.reduceLT, Int.reduceMul, Int.reduceNeg, Int.reducePow, Int.reduceSub, Int.reduceToNat, Nat.reduceAdd, Nat.reduceEqDiff, Nat.reduceLT, Nat.reduceLeDiff, Nat.reduceMul, reduceCtorEq]
  clear hf
  by_cases hkl : (k : Int) < (ls.length : Int)
  · obtain ⟨ad, dA, dc, rfl, _, ck, hdc, hdr⟩ := (hX.nb (F3.nb f4)).at (i := k) (by omega)
    have hlk := le_sum (ls := ls) (i := k) (by omega)
    have L4 := L3.nb f4
    have hk' : k < vs.length := by omega
    have hvk : vs[k]? = some vs[k] := List.getElem?_eq_getElem hk'
    generalize vs[k] = u at hvk
    have hu := L4.each k ls[k] u (at_i (by omega)) hvk
    obtain ⟨XA, xc, rfl, hxc, hXr⟩ := L4.g.sl.read
    obtain ⟨xa, exa, hcx⟩ := hXr.at hvk
    subst exa
    obtain ⟨b, pad, rfl, hB, hbb⟩ := hu.ex
    simp (disch := omega) only [wu64, wu32, wu8, fdiv_nn, EO, ↓EP, EQ, EM, ↓reduceIte, Int.reduceAdd, Int.reduceEq, Int.reduceLE, Int.reduceLT, Int.reduceMul, Int.reduceNeg, Int.reducePow, Int.reduceSub, Int.reduceToNat, Nat.reduceAdd, Nat.reduceEqDiff, Nat.reduceLT, Nat.reduceLeDiff, Nat.reduceMul, reduceCtorEq, k17, q3, q11, ck, hcx]
    intro m1
    refine Spec.kept_spec (hu.nb (Fr.drewN w4 _ nob)) rfl (hdr.nb (Fr.drewN w4 _ nob)) (by omega) _ fun w5 f5 => ?_
    simp (disch := omega) only [wu64, wu32, wu8, fdiv_nn, EO, ↓EP, EQ, EM, ↓reduceIte, Int.reduceAdd, Int.reduceEq, Int.reduceLE, Int.reduceLT, Int.reduceMul, Int.reduceNeg, Int.reducePow, Int.reduceSub, Int.reduceToNat, Nat.reduceAdd, Nat.reduceEqDiff, Nat.reduceLT, Nat.reduceLeDiff, Nat.reduceMul, reduceCtorEq]
    intro m2
    simp (disch := omega) only [wu64, wu32, wu8, fdiv_nn, EO, ↓EP, EQ, EM, ↓reduceIte, Int.reduceAdd, Int.reduceEq, Int.reduceLE, Int.reduceLT, Int.reduceMul, Int.reduceNeg, Int.reducePow, Int.reduceSub, Int.reduceToNat, Nat.reduceAdd, Nat.reduceEqDiff, Nat.reduceLT, Nat.reduceLeDiff, Nat.reduceMul, reduceCtorEq, k17]
    refine hN (ls.length - (k + 1)) _ _ (by omega) ⟨k + 1, by simp (disch := omega) only [wu64, wu32, wu8, fdiv_nn, EO, ↓EP, EQ, EM, ↓reduceIte, Int.reduceAdd, Int.reduceEq, Int.reduceLE, Int.reduceLT, Int.reduceMul, Int.reduceNeg, Int.reducePow, Int.reduceSub, Int.reduceToNat, Nat.reduceAdd, Nat.reduceEqDiff, Nat.reduceLT, Nat.reduceLeDiff, Nat.reduceMul, reduceCtorEq, k17, Int.natCast_add], by omega, rfl, ?_⟩
    exact f4.nb (((Fr.drewN w4 (1 + m1) nob).nb f5).nb (Fr.drewN w5 m2 nob))
  · have hke : k = ls.length := by omega
    subst hke
    clear hN
    simp (disch := omega) only [wu64, wu32, wu8, fdiv_nn, EO, ↓EP, EQ, EM, ↓reduceIte, Int.reduceAdd, Int.reduceEq, Int.reduceLE, Int.reduceLT, Int.reduceMul, Int.reduceNeg, Int.reducePow, Int.reduceSub, Int.reduceToNat, Nat.reduceAdd, Nat.reduceEqDiff, Nat.reduceLT, Nat.reduceLeDiff, Nat.reduceMul, reduceCtorEq, k17, q3, q13, q14, q15, q16]
    refine same_bytes (V2.nb f4) (V3.nb f4) (by omega) _ fun w5 f5 => ?_
    simp (disch := omega) only [wu64, wu32, wu8, fdiv_nn, EO, ↓EP, EQ, EM, ↓reduceIte, Int.reduceAdd, Int.reduceEq, Int.reduceLE, Int.reduceLT, Int.reduceMul, Int.reduceNeg, Int.reducePow, Int.reduceSub, Int.reduceToNat, Nat.reduceAdd, Nat.reduceEqDiff, Nat.reduceLT, Nat.reduceLeDiff, Nat.reduceMul, reduceCtorEq, q14, q16]
    refine num_vw _ ?_
    simp (disch := omega) only [wu64, wu32, wu8, fdiv_nn, EO, ↓EP, EQ, EM, ↓reduceIte, Int.reduceAdd, Int.reduceEq, Int.reduceLE, Int.reduceLT, Int.reduceMul, Int.reduceNeg, Int.reducePow, Int.reduceSub, Int.reduceToNat, Nat.reduceAdd, Nat.reduceEqDiff, Nat.reduceLT, Nat.reduceLeDiff, Nat.reduceMul, reduceCtorEq, q16]
    have F5 := (F3.nb f4).nb f5
    refine live_vw (hT.nb F5) _ fun w6 f6 => ?_
    simp (disch := omega) only [wu64, wu32, wu8, fdiv_nn, EO, ↓EP, EQ, EM, ↓reduceIte, Int.reduceAdd, Int.reduceEq, Int.reduceLE, Int.reduceLT, Int.reduceMul, Int.reduceNeg, Int.reducePow, Int.reduceSub, Int.reduceToNat, Nat.reduceAdd, Nat.reduceEqDiff, Nat.reduceLT, Nat.reduceLeDiff, Nat.reduceMul, reduceCtorEq]
    exact hK w6 (F5.nb f6)
end Go.Proofs.YtcflokckfjkdpaaDoor.Der

/- DerPuts: the row and the tied card: whatever the class, tag and data, what is laid is the document's, and the data stay; no condition. -/
namespace Go.Proofs.YtcflokckfjkdpaaDoor
open Go
set_option maxRecDepth 100000
theorem stand_of {P : Program} {fn : Func} (h : (fn.params.toList.all fun t => !P.wantsStandIn t) = true) : ∀ (j : Nat) t, fn.params[j]? = some t → P.wantsStandIn t = false := by
  intro j t hj
  have := List.all_eq_true.1 h t (by rw [Array.mem_toList_iff]; exact Array.mem_of_getElem? hj)
  simpa using this
open Go Go.ChangeShapes Go.WideShapes Go.ChangeAt Go.WideMaps Go.WideElems Go.RowKit Go.Proofs.YtcflokckfjkdpaaDoor.Eng Go.Proofs.YtcflokckfjkdpaaDoor.Der
theorem cells_l8 : Tryd.prog.cellsOf 22 = 1 := by kernel_rfl
theorem derPuts_walk {H : Type} {enc : TypeId × Value → H} (W : World) (base : Nat) (args : Array Value) (ds : List (DataW H)) (p : List MemPlace) (hA0 : DataW.TrodAll enc Tryd.prog W 0 (fun _ => true) true Tryd.f7.params.toList args.toList ds p)
    (hval : ∀ (j : Nat) t v, Tryd.f7.params[j]? = some t → args[j]? = some v → Value.okWide Tryd.prog W .any base t v) (hz : (DataW.weightsEach Tryd.prog Tryd.f7.params.toList ds).all (· ≤ reachBytes) = true) (hL : laidMetH Tryd.prog laid2 W) :
    callK Tryd.prog 7 args.toList W fun v w' => v = .bool true ∧ Fr W w' nob := by
  have hA : DataW.TrodAll enc Tryd.prog W 0 (fun _ => true) true Tryd.f7.params.toList args.toList ds p := hA0
  rw [Tryd.params7] at hA hval
  obtain ⟨v0, v1, v2, v3, d0, d1, d2, d3, p0, p1, p2, p3, rfl, rfl, rfl, h0, h1, h2, h3⟩ := trodAll_four hA
  obtain ⟨n0, rfl, -, -, w0⟩ := open_int Tryd.underlying3 (hval 0 3 v0 rfl rfl) h0
  obtain ⟨n1, rfl, -, -, w1⟩ := open_int Tryd.underlying3 (hval 1 3 v1 rfl rfl) h1
  obtain ⟨b2, rfl, -, -⟩ := open_bool Tryd.underlying4 (hval 2 4 v2 rfl rfl) h2
  obtain ⟨A, c, l, hs, rfl, hc, h63, hr, hn, he, hb⟩ := Row.open_llm Tryd.underlying60 cells_l8 Tryd.underlying22 Tryd.underlying5 cells_u8 (hval 3 60 v3 rfl rfl) h3
  refine derputs_vw (of_laid hL) ⟨A, c, hs, rfl, hc, hr, hn, fun i v p h1 h2 => ?_⟩ (Row.wf_i64 w0) (Row.wf_i64 w1) (by unfold maxLen at h63; omega) (fun p hp => ?_) _ fun w' f => ⟨rfl, f⟩
  · obtain ⟨B, c', e, h3, h4⟩ := he i p v h2 h1
    exact ⟨B, c', e, h3, h4⟩
  · have := (hb p hp).2
    unfold maxLen at this
    omega
theorem derPuts_lifted (os : Os) (started : os.Started) (H : Type) (enc : TypeId × Value → H) :
    ReturnsInHanded {} Tryd.checked os 7 .any (fun w args => (Rows.derPutsSpec.pre enc Tryd.prog Tryd.f7 [] false w args ∧ laidMetH Tryd.prog laid2 w) ∧ sizedMet enc Tryd.prog Tryd.f7 (OpenSpec.ofChange Rows.derPutsSpec) false w args)
      (Rows.derPutsSpec.post enc Tryd.prog Tryd.f7 false true false false) :=
  Row.lifted_of (C := Tryd.checked) (X := fun w _ => laidMetH Tryd.prog laid2 w) (fun _ _ _ hh h => h.of_heap hh) own started (by kernel_rfl) Tryd.func7
    (ChangeSpec.witness_shaped (enc := enc) (C := Tryd.checked) (os := os) (X := fun w _ => laidMetH Tryd.prog laid2 w) false (World.laidAll Tryd.prog os laid2) #[.int .i64 0, .int .i64 0, .bool false, .slice none 0 0] 8 (World.laidAll_os _ _ _) (lay_shaped os) (by kernel_rfl) (by kernel_rfl) (by kernel_rfl) (door_met os _))
    laidOut (tb := 4) (by kernel_rfl) Tryd.underlying4 rfl (of_decide_eq_true (by kernel_rfl)) (fun ds h => by rw [show Tryd.f7.params.size = 4 by kernel_rfl] at h; obtain ⟨a, b, c, d, rfl⟩ := Row.len4 h; exact ⟨rfl, rfl, rfl⟩)
    (fun W base args ds p hA hval hz hL => derPuts_walk (enc := enc) W base args ds p hA hval hz hL)
theorem derPuts_holds : Rows.DerPutsSaid :=
  OpenClaim.holds_of_wide 7 Tryd.f7 rfl rfl rfl rfl rfl rfl rfl ⟨rfl, rfl, rfl, rfl, rfl⟩ rfl rfl rfl rfl rfl (by kernel_rfl) Tryd.func7 (by kernel_rfl)
    (of_decide_eq_true (by kernel_rfl)) (by unfold Func.isWrapper; first | (rw [if_pos (by decide +kernel)]; kernel_rfl) | (rw [if_neg (by decide +kernel)]; exact ⟨rfl, rfl⟩))
    (fun os started H enc _ => derPuts_lifted os started H enc)
theorem derPuts_card : Rows.DerPutsCardSaid :=
  Claim7.holds_tied_plain_at .later [] [.data, .data, .data, .data, .pinned] true (true, "b0f98ca86498d09aa392f72418b7d9cd37849646039c304add223e9f0f14904e") true
    derPuts_holds (fun _ h => by cases h) (by kernel_rfl) (fun _ h => by cases h) derPuts_row_tie rfl ⟨rfl, rfl⟩ (by kernel_rfl) rfl
    (fun f fn hf hfn => by
      obtain rfl : f = 7 := Option.some.inj ((show Tryd.prog.funcNamed "chirograph/chirographlaw04.DerPuts" = some 7 by kernel_rfl).symm.trans hf) |>.symm
      obtain rfl : fn = Tryd.f7 := (Option.some.inj (Tryd.func7.symm.trans hfn)).symm
      exact ⟨by kernel_rfl, stand_of (by kernel_rfl)⟩)
    (by kernel_rfl)
end Go.Proofs.YtcflokckfjkdpaaDoor
