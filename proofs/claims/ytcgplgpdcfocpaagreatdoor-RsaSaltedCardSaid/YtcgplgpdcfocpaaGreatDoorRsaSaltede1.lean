/- RsaSalted: what is used, in one text. -/
import Derived.Below
import Derived.RangeFuncRecord
import Derived.TacticsIn
import Derived.ControlIn
import Derived.Test.YtcgplgpdcfocpaaGreatDoorRsaSaltede0
set_option linter.unusedVariables false
set_option linter.unusedSimpArgs false
set_option maxRecDepth 100000
open Int renaming reduceAdd → Za, reduceEq → Zb, reduceLE → Zc, reduceLT → Zd, reduceMul → Ze, reduceNeg → Zf, reducePow → Zg, reduceSub → Zj, reduceToNat → Zk
open Nat renaming reduceAdd → Zl, reduceEqDiff → Zm, reduceLT → Zn, reduceLeDiff → Zp, reduceMul → Zq
section
namespace Go.Proofs.YtcgplgpdcfocpaaGreatDoor.Eng
open Go Go.RowKit
theorem w64 {n : Int} (h : -9223372036854775808 ≤ n) (h' : n ≤ 9223372036854775807) : IntKind.i64.wrap n = n := by
 unfold IntKind.wrap IntKind.bits IntKind.signed
 simp only[Bool.true_and,decide_eq_true_eq]
 split <;> omega
theorem Zu {n : Int} (h : 0 ≤ n) (h' : n < 18446744073709551616) : IntKind.u64.wrap n = n := by
 unfold IntKind.wrap IntKind.bits IntKind.signed
 simp only[Bool.false_and,Bool.false_eq_true,if_false]
 omega
theorem Zv {n : Int} (h : 0 ≤ n) (h' : n < 4294967296) : IntKind.u32.wrap n = n := by
 unfold IntKind.wrap IntKind.bits IntKind.signed
 simp only[Bool.false_and,Bool.false_eq_true,if_false]
 omega
theorem Zx {n : Int} (h : 0 ≤ n) (h' : n < 256) : IntKind.u8.wrap n = n := by
 unfold IntKind.wrap IntKind.bits IntKind.signed
 simp only[Bool.false_and,Bool.false_eq_true,if_false]
 omega
theorem wu64_mod (n : Int) : IntKind.u64.wrap n = n % 18446744073709551616 := by
 unfold IntKind.wrap IntKind.bits IntKind.signed
 simp
theorem wu32_mod (n : Int) : IntKind.u32.wrap n = n % 4294967296 := by
 unfold IntKind.wrap IntKind.bits IntKind.signed
 simp
theorem wu8_mod (n : Int) : IntKind.u8.wrap n = n % 256 := by
 unfold IntKind.wrap IntKind.bits IntKind.signed
 simp
theorem lt_t {a b : Int} (h : a < b) : (a < b) = True := eq_true h
theorem lt_f {a b : Int} (h : b ≤ a) : (a < b) = False := eq_false (by omega)
theorem le_t {a b : Int} (h : a ≤ b) : (a ≤ b) = True := eq_true h
theorem le_f {a b : Int} (h : b < a) : (a ≤ b) = False := eq_false (by omega)
theorem eq_t {a b : Int} (h : a = b) : (a = b) = True := eq_true h
theorem eq_f {a b : Int} (h : a < b ∨ b < a) : (a = b) = False := eq_false (by omega)
theorem nlt_t {a b : Nat} (h : a < b) : (a < b) = True := eq_true h
theorem nlt_f {a b : Nat} (h : b ≤ a) : (a < b) = False := eq_false (by omega)
theorem nle_t {a b : Nat} (h : a ≤ b) : (a ≤ b) = True := eq_true h
theorem nle_f {a b : Nat} (h : b < a) : (a ≤ b) = False := eq_false (by omega)
theorem st_scalar {v : Value} (h1 : v.oneCell' = true) (p : Addr) (w : World) (K : World → Prop) : stK 1 p v w K = ((w.cell? p).isSome = true ∧ w.frozen? p = false ∧ K (w.setCell p v)) := by
 unfold stK
 rw[cells_one h1]
 apply propext
 constructor
 ·rintro ⟨_, ⟨_, h⟩ | ⟨cs, rfl, _⟩⟩
  ·exact h
  ·simp[Value.oneCell'] at h1
 ·exact fun h => ⟨rfl, .inl ⟨h1, h⟩⟩
theorem st_int (k n p w K) : stK 1 p (.int k n) w K = ((w.cell? p).isSome = true ∧ w.frozen? p = false ∧ K (w.setCell p (.int k n))) := st_scalar rfl p w K
theorem st_agg (cs : Array Value) (n b o w K) : stK n ⟨b, o, none⟩ (.agg cs) w K = (cs.size = n ∧ (∀ u ∈ cs.toList, u.oneCell' = true) ∧ (∀ j, j < cs.size → (w.cell? ⟨b, o + j, none⟩).isSome = true) ∧ (∀ j, j < cs.size → w.frozen? ⟨b, o + j, none⟩ = false) ∧ K (w.setCells b o cs.toList)) := by
 unfold stK
 apply propext
 constructor
 ·rintro ⟨hn, ⟨h, _⟩ | ⟨cs', h, _, h'⟩⟩
  ·simp[Value.oneCell'] at h
  ·cases h; exact ⟨hn, h'⟩
 ·rintro ⟨hn, h⟩; exact ⟨hn, .inr ⟨cs, rfl, rfl, h⟩⟩
def nums (k : IntKind) (l : List Int) : List Value := l.map (Value.int k)
def at' (l : List Int) (i : Int) : Int := l.getD i.toNat 0
theorem nums_length (k : IntKind) (l : List Int) : (nums k l).length = l.length := by simp[nums]
theorem nums_get {k : IntKind} {l : List Int} {j : Nat} (h : j < l.length) : (nums k l)[j]? = some (.int k (l.getD j 0)) := by simp[nums,h,List.getElem?_eq_getElem h]
theorem nums_append (k : IntKind) (l m : List Int) : nums k (l ++ m) = nums k l ++ nums k m := by simp[nums]
theorem nums_set (k : IntKind) (l : List Int) (j : Nat) (x : Int) : (nums k l).set j (.int k x) = nums k (l.set j x) := by simp[nums,List.map_set]
theorem nums_take (k : IntKind) (l : List Int) (j : Nat) : (nums k l).take j = nums k (l.take j) := by simp[nums,List.map_take]
theorem nums_drop (k : IntKind) (l : List Int) (j : Nat) : (nums k l).drop j = nums k (l.drop j) := by simp[nums,List.map_drop]
theorem nums_one (k : IntKind) (l : List Int) : ∀ u ∈ nums k l, u.oneCell' = true := by
 intro u hu; simp only[nums,List.mem_map] at hu; obtain ⟨x, _, rfl⟩ := hu; rfl
theorem nums_replicate (k : IntKind) (n : Nat) (x : Int) : nums k (List.replicate n x) = List.replicate n (.int k x) := by simp[nums]
def Blk (w : World) (b : Nat) (cs : List Value) : Prop := ∃ e, w.heap[b]? = some (.cells cs.toArray e (0, 0))
theorem Blk.lt {w : World} {b : Nat} {cs : List Value} (h : Blk w b cs) : b < w.heap.size := by obtain ⟨e, h⟩ := h; exact (Array.getElem?_eq_some_iff.1 h).1
theorem Blk.cell? {w : World} {b : Nat} {cs : List Value} (h : Blk w b cs) (j : Nat) : w.cell? ⟨b, j, none⟩ = cs[j]? := by
 obtain ⟨e, h⟩ := h; simp[World.cell?,h]
theorem Blk.frozen {w : World} {b : Nat} {cs : List Value} (h : Blk w b cs) (j : Nat) : w.frozen? ⟨b, j, none⟩ = false := by
 obtain ⟨e, h⟩ := h; simp[World.frozen?,h]
theorem Blk.isSome {w : World} {b : Nat} {cs : List Value} (h : Blk w b cs) {j : Nat} (hj : j < cs.length) : (w.cell? ⟨b, j, none⟩).isSome = true := by
 rw[h.cell?]; simp[hj]
theorem Blk.num {w : World} {b : Nat} {k : IntKind} {l : List Int} (h : Blk w b (nums k l)) {i : Int} (h0 : 0 ≤ i) (hi : i < l.length) : w.cell? ⟨b, i.toNat, none⟩ = some (.int k (at' l i)) := by
 rw[h.cell?]; exact nums_get (by omega)
theorem Blk.cellsAt {w : World} {b : Nat} {cs : List Value} (h : Blk w b cs) (o : Nat) : Eng.cellsAt w ⟨b, o, none⟩ (cs.drop o) := by
 intro j v hj
 rw[Addr.add_lit,h.cell?]
 rwa [List.getElem?_drop] at hj
theorem Blk.heap {w w' : World} {b : Nat} {cs : List Value} (h : Blk w b cs) (he : w'.heap[b]? = w.heap[b]?) : Blk w' b cs := by
 obtain ⟨e, h⟩ := h; exact ⟨e, he.trans h⟩
theorem Blk.drewN {w : World} {b : Nat} {cs : List Value} (h : Blk w b cs) (n : Nat) : Blk (w.drewN n) b cs := h
theorem Blk.drew {w : World} {b : Nat} {cs : List Value} (h : Blk w b cs) : Blk w.drew b cs := h
theorem Blk.below {B : Nat} {w w' : World} (hb : Below B w w') {b : Nat} {cs : List Value} (h : Blk w b cs) (hB : b < B) : Blk w' b cs := h.heap (hb.block b hB)
theorem Blk.alloc {w : World} {b : Nat} {cs : List Value} (h : Blk w b cs) (o : Obj) : Blk (w.alloc o) b cs := h.heap (Below.heap_alloc w o b h.lt)
theorem Blk.new (w : World) (cs : Array Value) (e : TypeId) : Blk (w.alloc (.cells cs e)) w.heap.size cs.toList := ⟨e, by rw[Array.toArray_toList]; exact heap_alloc_new w _⟩
theorem Blk.new' {w : World} {cs : Array Value} {l : List Value} (h : cs.toList = l) (e : TypeId) : Blk (w.alloc (.cells cs e)) w.heap.size l := h ▸ Blk.new w cs e
theorem Blk.setCell {w : World} {b : Nat} {cs : List Value} (h : Blk w b cs) (j : Nat) (v : Value) : Blk (w.setCell ⟨b, j, none⟩ v) b (cs.set j v) := by
 obtain ⟨e, h⟩ := h
 refine ⟨e, ?_⟩
 rw[heap_setCell_same w b j _ e v h]
 simp
theorem Blk.setOther {w : World} {b : Nat} {cs : List Value} (h : Blk w b cs) {p : Addr} (hp : b ≠ p.block) (v : Value) : Blk (w.setCell p v) b cs := h.heap (heap_setCell_other w p b v hp)
theorem Blk.setCells {b : Nat} : ∀ (vs : List Value) (o : Nat) (w : World) (cs : List Value), Blk w b cs → o + vs.length ≤ cs.length → Blk (w.setCells b o vs) b (cs.take o ++ vs ++ cs.drop (o + vs.length))
 | [], o, w, cs, h, _ => by simpa [World.setCells] using h
 | v :: r, o, w, cs, h, hl => by
  have ih := Blk.setCells r (o + 1) _ _ (h.setCell o v) (by simp at hl ⊢; omega)
  simp only[World.setCells]
  have ho : o < cs.length := by simp at hl; omega
  have e : (cs.set o v).take (o + 1) ++ r ++ (cs.set o v).drop (o + 1 + r.length) = cs.take o ++ (v :: r) ++ cs.drop (o + (v :: r).length) := by
   have h1 : (cs.set o v).take (o + 1) = cs.take o ++ [v] := by
    apply List.ext_getElem?
    intro j
    simp only[List.getElem?_take,List.getElem?_set,List.getElem?_append,List.length_take,List.getElem?_cons,List.getElem?_nil]
    by_cases h1 : j < o
    ·rw[if_pos (by omega),if_neg (by omega),if_pos (by omega),if_pos h1]
    ·by_cases h2 : j = o
     ·subst h2; rw[if_pos (by omega),if_pos rfl,if_pos (by omega),if_neg (by omega),if_pos (by omega)]
     ·rw[if_neg (by omega),if_neg (by omega),if_neg (by omega)]
   have h2 : (cs.set o v).drop (o + 1 + r.length) = cs.drop (o + (v :: r).length) := by
    rw[List.drop_set_of_lt (by omega)]
    simp[Nat.add_assoc,Nat.add_comm 1]
   rw[h1,h2]; simp
  rw[e] at ih
  exact ih
theorem setCells_heap (b : Nat) : ∀ (vs : List Value) (o : Nat) (w : World) (k : Nat), k ≠ b → (w.setCells b o vs).heap[k]? = w.heap[k]?
 | [], _, _, _, _ => rfl
 | v :: r, o, w, k, hk => by
  simp only[World.setCells]
  rw[setCells_heap b r (o + 1) _ k hk]
  exact heap_setCell_other w ⟨b, o, none⟩ k v hk
theorem setCells_size (b : Nat) : ∀ (vs : List Value) (o : Nat) (w : World), (w.setCells b o vs).heap.size = w.heap.size
 | [], _, _ => rfl
 | v :: r, o, w => by simp only[World.setCells]; rw[setCells_size b r]; simp[World.setCell]
theorem Blk.setCellsOther {w : World} {b b' : Nat} {cs : List Value} (h : Blk w b cs) (hb : b ≠ b') (o : Nat) (vs : List Value) : Blk (w.setCells b' o vs) b cs := h.heap (setCells_heap b' vs o w b hb)
theorem setCells_below {B b : Nat} (hb : B ≤ b) : ∀ (vs : List Value) (o : Nat) {a w : World}, Below B a w → Below B a (w.setCells b o vs)
 | [], _, _, _, h => h
 | v :: r, o, a, w, h => setCells_below hb r (o + 1) (h.setCell (p := ⟨b, o, none⟩) hb v)
theorem size_setCell (w : World) (a : Addr) (v : Value) : (w.setCell a v).heap.size = w.heap.size := by simp[World.setCell]
theorem size_alloc (w : World) (o : Obj) : (w.alloc o).heap.size = w.heap.size + 1 := by simp
theorem size_drewN (w : World) (n : Nat) : (w.drewN n).heap.size = w.heap.size := rfl
theorem size_drew (w : World) : w.drew.heap.size = w.heap.size := rfl
theorem below_drewN' {B : Nat} {a w : World} (h : Below B a w) (n : Nat) : Below B a (w.drewN n) := h.trans ⟨rfl, rfl, rfl, Nat.le_refl _, fun _ _ => rfl⟩
def Rd (w : World) (A : Option Addr) (vs : List Value) : Prop := vs = [] ∨ ∃ p, A = some p ∧ p.block < w.heap.size ∧ cellsAt w p vs
theorem Rd.nil (w : World) (A : Option Addr) : Rd w A [] := .inl rfl
theorem Rd.get {w : World} {A : Option Addr} {vs : List Value} (h : Rd w A vs) (h0 : 0 < vs.length) : ∃ p, A = some p ∧ p.block < w.heap.size ∧ cellsAt w p vs := by
 rcases h with rfl | h
 ·simp at h0
 ·exact h
theorem cellsAt.below {w w' : World} {p : Addr} {vs : List Value} (h : cellsAt w p vs) (hp : p.block < w.heap.size) (hb : Below w.heap.size w w') : cellsAt w' p vs := by
 intro j v hj
 rw[hb.cell (p := p.add j) (by unfold Addr.add; split <;> exact hp)]
 exact h j v hj
theorem cellsAt.num {w : World} {p : Addr} {k : IntKind} {l : List Int} (h : cellsAt w p (nums k l)) {i : Int} (h0 : 0 ≤ i) (hi : i < l.length) : w.cell? (p.add i.toNat) = some (.int k (at' l i)) :=
 h _ _ (nums_get (by omega))
theorem Rd.below {w w' : World} {A : Option Addr} {vs : List Value} (h : Rd w A vs) (hb : Below w.heap.size w w') : Rd w' A vs := by
 rcases h with h | ⟨p, e, hp, hc⟩
 ·exact .inl h
 ·exact .inr ⟨p, e, Nat.lt_of_lt_of_le hp hb.size, hc.below hp hb⟩
theorem Rd.drewN {w : World} {A : Option Addr} {vs : List Value} (h : Rd w A vs) (n : Nat) : Rd (w.drewN n) A vs := h
theorem Blk.rd {w : World} {b : Nat} {cs : List Value} (h : Blk w b cs) (o : Nat) {n : Nat} {vs : List Value} (hv : (cs.drop o).take n = vs) : Rd w (some ⟨b, o, none⟩) vs := by
 refine .inr ⟨_, rfl, h.lt, fun j v hj => ?_⟩
 subst hv
 refine h.cellsAt o j v ?_
 rw[List.getElem?_take] at hj
 split at hj
 ·exact hj
 ·cases hj
theorem cellsAt.sub {w : World} {p : Addr} {vs : List Value} (h : cellsAt w p vs) (o : Nat) : cellsAt w (p.add o) (vs.drop o) := by
 intro j v hj
 rw[List.getElem?_drop] at hj
 have := h (o + j) v hj
 have e : (p.add o).add j = p.add (o + j) := by
  unfold Addr.add
  by_cases ho : o = 0 <;> by_cases hj : j = 0 <;> simp[ho,hj,Nat.add_assoc]
 rw[e]; exact this
theorem cellsAt.take {w : World} {p : Addr} {vs : List Value} (h : cellsAt w p vs) (n : Nat) : cellsAt w p (vs.take n) := by
 intro j v hj
 rw[List.getElem?_take] at hj
 split at hj
 ·exact h j v hj
 ·cases hj
end Go.Proofs.YtcgplgpdcfocpaaGreatDoor.Eng
end
section
namespace Go.Proofs.YtcgplgpdcfocpaaGreatDoor.Eng
open Go Go.RowKit
theorem tmod_nn {a b : Int} (h : 0 ≤ a) : a.tmod b = a % b := Int.tmod_eq_emod_of_nonneg h
theorem tdiv_nn {a b : Int} (h : 0 ≤ a) : a.tdiv b = a / b := Int.tdiv_eq_ediv_of_nonneg h
theorem Zz {a b : Int} (h : 0 ≤ b) : a.fdiv b = a / b := Int.fdiv_eq_ediv_of_nonneg a h
theorem cells_agg (cs : Array Value) : (Value.agg cs).cells = cs := rfl
theorem cells_int (k : IntKind) (n : Int) : (Value.int k n).cells = #[.int k n] := rfl
theorem cells_sl (a : Option Addr) (n c : Nat) : (Value.slice a n c).cells = #[.slice a n c] := rfl
theorem cells_ptr (a : Option Addr) : (Value.pointer a).cells = #[.pointer a] := rfl
theorem cells_bool (b : Bool) : (Value.bool b).cells = #[.bool b] := rfl
theorem at_set (l : List Int) (i j : Int) (x : Int) (h0 : 0 ≤ i) (hj : 0 ≤ j) (hi : i < l.length) : at' (l.set i.toNat x) j = if i = j then x else at' l j := by
 unfold at'
 by_cases h : i = j
 ·subst h
  have : i.toNat < l.length := by omega
  simp[List.getD_eq_getElem?_getD,this]
 ·have : i.toNat ≠ j.toNat := by omega
  simp[List.getD_eq_getElem?_getD,h,List.getElem?_set_ne this]
theorem quiet_of {P : Program} {f : FuncId} {args : List Value} {w : World} {K : Value → Prop} (v : Value) (h : ∀ w' (K' : Value → World → Prop), K' v w' → callK P f args w' K') (hK : K v) : qcallK P f args w K :=
 ⟨v, fun n => h _ _ ⟨rfl, n, rfl⟩, hK⟩
theorem Blk.cellsAt0 {w : World} {b : Nat} {cs : List Value} (h : Blk w b cs) : Eng.cellsAt w ⟨b, 0, none⟩ cs := by have := h.cellsAt 0; rwa [List.drop_zero] at this
theorem Blk.part {w : World} {b : Nat} {cs : List Value} (h : Blk w b cs) (o n : Nat) : Eng.cellsAt w ⟨b, o, none⟩ ((cs.drop o).take n) := (h.cellsAt o).take n
theorem Blk.st {w : World} {b n : Nat} {old : List Value} {cs : Array Value} {K : World → Prop} (h : Blk w b old) (hl : cs.size = n) (hn : old.length = n) (h1 : ∀ u ∈ cs.toList, u.oneCell' = true) (hK : K (w.setCells b 0 cs.toList)) : stK n ⟨b, 0, none⟩ (.agg cs) w K := by
 rw[st_agg]
 exact ⟨hl, h1, fun j hj => h.isSome (by omega), fun j hj => h.frozen _, hK⟩
theorem Blk.stAt {w : World} {b o n : Nat} {old : List Value} {cs : Array Value} {K : World → Prop} (h : Blk w b old) (hl : cs.size = n) (hn : o + n ≤ old.length) (h1 : ∀ u ∈ cs.toList, u.oneCell' = true) (hK : K (w.setCells b o cs.toList)) : stK n ⟨b, o, none⟩ (.agg cs) w K := by
 rw[st_agg]
 exact ⟨hl, h1, fun j hj => h.isSome (by omega), fun j hj => h.frozen _, hK⟩
theorem Blk.ldAgg {w : World} {b n : Nat} {cs : List Value} {K : Value → Prop} (h : Blk w b cs) (hn : cs.length = n) (hK : K (.agg cs.toArray)) : ldK w (.agg n) ⟨b, 0, none⟩ K := ⟨cs, hn, h.cellsAt0, hK⟩
theorem Blk.has {w : World} {b : Nat} {cs : List Value} (h : Blk w b cs) (j : Nat) (v : Value) (hj : cs[j]? = some v) : w.cell? ⟨b, j, none⟩ = some v := by rw[h.cell?,hj]
theorem at_toNat (l : List Int) (i : Int) : at' l (i.toNat : Int) = at' l i := by unfold at'; rw[Int.toNat_natCast]
theorem Blk.numN {w : World} {b : Nat} {k : IntKind} {l : List Int} (h : Blk w b (nums k l)) {j : Nat} (hj : j < l.length) : w.cell? ⟨b, j, none⟩ = some (.int k (at' l j)) := by
 rw[h.cell?]; simpa [at'] using nums_get hj
theorem cellsAt.numN {w : World} {p : Addr} {k : IntKind} {l : List Int} (h : Eng.cellsAt w p (nums k l)) {j : Nat} (hj : j < l.length) : w.cell? (p.add j) = some (.int k (at' l j)) := by
 have := h j _ (nums_get hj)
 simpa [at'] using this
structure New (w w' : World) (l : List Value) : Prop where
 size : w'.heap.size = w.heap.size + 1
 blk : Blk w' w.heap.size l
 keep : ∀ {b : Nat} {cs : List Value}, Blk w b cs → Blk w' b cs
 below : ∀ {B : Nat} {a : World}, B ≤ w.heap.size → Below B a w → Below B a w'
 rd : ∀ {A : Option Addr} {vs : List Value}, Rd w A vs → Rd w' A vs
theorem new_of {w w' : World} {cs : Array Value} {t : TypeId} {l : List Value} (e : w.alloc (.cells cs t) = w') (h : cs.toList = l) : New w w' l := by
 subst e
 have hb : Below w.heap.size w (w.alloc (.cells cs t)) := (Below.refl _ _).alloc (Nat.le_refl _) _
 exact ⟨by simp only[size_alloc], Blk.new' h t, fun h => h.alloc _, fun hB h => h.alloc hB _, fun h => h.below hb⟩
structure Put (w w' : World) (b : Nat) (l : List Value) : Prop where
 size : w'.heap.size = w.heap.size
 blk : Blk w' b l
 keep : ∀ {b' : Nat} {cs : List Value}, b' ≠ b → Blk w b' cs → Blk w' b' cs
 below : ∀ {B : Nat} {a : World}, B ≤ b → Below B a w → Below B a w'
 other : ∀ b', b' ≠ b → w'.heap[b']? = w.heap[b']?
theorem put_cell0 {w : World} {b : Nat} {cs : List Value} (h : Blk w b cs) (j : Nat) (v : Value) : Put w (w.setCell ⟨b, j, none⟩ v) b (cs.set j v) :=
 ⟨by simp only[size_setCell], h.setCell j v, fun hb h => h.setOther hb v, fun hB h => h.setCell hB v, fun b' hb => heap_setCell_other w ⟨b, j, none⟩ b' v hb⟩
theorem put_cells {w : World} {b : Nat} {cs : List Value} (h : Blk w b cs) (o : Nat) (vs : List Value) (hl : o + vs.length ≤ cs.length) : Put w (w.setCells b o vs) b (cs.take o ++ vs ++ cs.drop (o + vs.length)) :=
 ⟨setCells_size b vs o w, h.setCells vs o w cs hl, fun hb h => h.setCellsOther hb o vs, fun hB h => setCells_below hB vs o h, fun b' hb => setCells_heap b vs o w b' hb⟩
theorem put_over {w : World} {b : Nat} {cs : List Value} (h : Blk w b cs) (vs : List Value) (hl : vs.length = cs.length) : Put w (w.setCells b 0 vs) b vs := by
 have := put_cells h 0 vs (by omega)
 simpa [hl] using this
theorem st_whole {w : World} {b n : Nat} {old cs : List Value} {K : World → Prop} (h : Blk w b old) (hl : cs.length = n) (hn : old.length = n) (h1 : ∀ u ∈ cs, u.oneCell' = true) (hK : ∀ w', Put w w' b cs → K w') : stK n ⟨b, 0, none⟩ (.agg cs.toArray) w K :=
 h.st (by simpa using hl) hn (by simpa using h1) (hK _ (by rw[List.toList_toArray]; exact put_over h cs (by omega)))
theorem st_part {w : World} {b o n : Nat} {old cs : List Value} {K : World → Prop} (h : Blk w b old) (hl : cs.length = n) (hn : o + n ≤ old.length) (h1 : ∀ u ∈ cs, u.oneCell' = true) (hK : ∀ w', Put w w' b (old.take o ++ cs ++ old.drop (o + cs.length)) → K w') : stK n ⟨b, o, none⟩ (.agg cs.toArray) w K :=
 h.stAt (by simpa using hl) hn (by simpa using h1) (hK _ (by rw[List.toList_toArray]; exact put_cells h o cs (by omega)))
theorem al_k {w : World} {cs : Array Value} {t : TypeId} {K : World → Prop} (l : List Value) (h : cs.toList = l) (hK : ∀ w', New w w' l → K w') : alT cs t w K .mk := hK _ (new_of rfl h)
theorem st_num {w : World} {b : Nat} {k : IntKind} {l : List Int} {j : Nat} {x : Int} {K : World → Prop} (h : Blk w b (nums k l)) (hj : j < l.length) (hK : ∀ w', Put w w' b (nums k (l.set j x)) → K w') : stK 1 ⟨b, j, none⟩ (.int k x) w K := by
 rw[st_int]
 have := put_cell0 h j (.int k x)
 rw[nums_set] at this
 exact ⟨h.isSome (by rw[nums_length]; exact hj), h.frozen _, hK _ this⟩
theorem st_one {w : World} {b : Nat} {l : List Value} {j : Nat} {v : Value} {K : World → Prop} (h : Blk w b l) (hj : j < l.length) (hv : v.oneCell' = true) (hK : ∀ w', Put w w' b (l.set j v) → K w') : stK 1 ⟨b, j, none⟩ v w K := by
 rw[st_scalar hv]
 exact ⟨h.isSome hj, h.frozen _, hK _ (put_cell0 h j v)⟩
theorem fill8 (k : IntKind) (a0 a1 a2 a3 a4 a5 a6 a7 : Int) : fillL [(0, 1), (1, 1), (2, 1), (3, 1), (4, 1), (5, 1), (6, 1), (7, 1)] (Array.replicate 8 (Value.int k 0)) [(0, .int k a0), (1, .int k a1), (2, .int k a2), (3, .int k a3), (4, .int k a4), (5, .int k a5), (6, .int k a6), (7, .int k a7)] = some (nums k [a0, a1, a2, a3, a4, a5, a6, a7]).toArray := by kernel_rfl
def rounds {σ : Type} (f : Nat → σ → σ) : Nat → σ → σ
 | 0, s => s
 | n + 1, s => f n (rounds f n s)
end Go.Proofs.YtcgplgpdcfocpaaGreatDoor.Eng
end
section
namespace Go.Proofs.YtcgplgpdcfocpaaGreatDoor.Eng
open Go Go.RowKit
structure Fr (w w' : World) (P : Nat → Prop) : Prop where
 base : Below 0 w w'
 block : ∀ b, b < w.heap.size → ¬ P b → w'.heap[b]? = w.heap[b]?
def nob : Nat → Prop := fun _ => False
theorem Fr.refl (w : World) (P : Nat → Prop) : Fr w w P := ⟨Below.refl _ _, fun _ _ _ => rfl⟩
theorem Fr.size {w w' : World} {P : Nat → Prop} (h : Fr w w' P) : w.heap.size ≤ w'.heap.size := h.base.size
theorem Fr.mono {w w' : World} {P Q : Nat → Prop} (h : Fr w w' P) (hq : ∀ b, b < w.heap.size → P b → Q b) : Fr w w' Q := ⟨h.base, fun b hb hn => h.block b hb fun hp => hn (hq b hb hp)⟩
theorem Fr.trans {a b c : World} {P Q : Nat → Prop} (h : Fr a b P) (k : Fr b c Q) (hq : ∀ x, x < a.heap.size → Q x → P x) : Fr a c P :=
 ⟨h.base.trans k.base, fun x hx hn => (k.block x (Nat.lt_of_lt_of_le hx h.size) fun hq' => hn (hq x hx hq')).trans (h.block x hx hn)⟩
theorem Fr.below {w w' : World} {P : Nat → Prop} {B : Nat} (h : Fr w w' P) (hB : B ≤ w.heap.size) (hp : ∀ b, P b → B ≤ b) : Below B w w' :=
 ⟨h.base.os, h.base.tape, h.base.output, h.base.size, fun b hb => h.block b (by omega) fun hP => by have := hp b hP; omega⟩
theorem fr_of {w w' : World} {B : Nat} (h : Below B w w') (hB : B = w.heap.size) : Fr w w' nob := by
 subst hB; exact ⟨h.mono (Nat.zero_le _), fun b hb _ => h.block b hb⟩
theorem Fr.drewN (w : World) (n : Nat) (P : Nat → Prop) : Fr w (w.drewN n) P := ⟨below_drewN' (Below.refl _ _) n, fun _ _ _ => rfl⟩
theorem New.fr {w w' : World} {l : List Value} (h : New w w' l) (P : Nat → Prop) : Fr w w' P := by
 have := h.below (Nat.le_refl _) (Below.refl _ w)
 exact ⟨this.mono (Nat.zero_le _), fun b hb _ => this.block b hb⟩
theorem Put.fr {w w' : World} {b : Nat} {l : List Value} (h : Put w w' b l) : Fr w w' (fun x => x = b) :=
 ⟨h.below (Nat.zero_le _) (Below.refl _ w), fun x _ hx => h.other x hx⟩
theorem Blk.fr {w w' : World} {P : Nat → Prop} {b : Nat} {cs : List Value} (h : Blk w b cs) (f : Fr w w' P) (hb : ¬ P b) : Blk w' b cs := h.heap (f.block b h.lt hb)
theorem cell_heap {w w' : World} {p : Addr} (h : w'.heap[p.block]? = w.heap[p.block]?) : w'.cell? p = w.cell? p := by
 unfold World.cell?; rw[h]
theorem add_block (p : Addr) (j : Nat) : (p.add j).block = p.block := by unfold Addr.add; split <;> rfl
theorem cellsAt.fr {w w' : World} {P : Nat → Prop} {p : Addr} {vs : List Value} (h : cellsAt w p vs) (f : Fr w w' P) (hp : p.block < w.heap.size) (hb : ¬ P p.block) : cellsAt w' p vs := by
 intro j v hj
 exact (cell_heap (w := w) (w' := w') (p := p.add j) (by rw[add_block]; exact f.block _ hp hb)).trans (h j v hj)
def offA (A : Option Addr) (P : Nat → Prop) : Prop := ∀ p, A = some p → ¬ P p.block
theorem Rd.fr {w w' : World} {P : Nat → Prop} {A : Option Addr} {vs : List Value} (h : Rd w A vs) (f : Fr w w' P) (ho : vs = [] ∨ offA A P) : Rd w' A vs := by
 rcases h with h | ⟨p, e, hp, hc⟩
 ·exact .inl h
 ·rcases ho with ho | ho
  ·exact .inl ho
  ·exact .inr ⟨p, e, Nat.lt_of_lt_of_le hp f.size, hc.fr f hp (ho p e)⟩
def blkOf : Value → Option Nat
 | .slice (some p) _ _ => some p.block
 | .pointer (some p) => some p.block
 | _ => none
def Sl (k : IntKind) (w : World) (v : Value) (l : List Int) : Prop :=
 (l = [] ∧ v = .slice none 0 0) ∨ ∃ b pad, v = .slice (some ⟨b, 0, none⟩) l.length (l.length + pad.length) ∧ Blk w b (nums k (l ++ pad))
theorem Sl.nil (k : IntKind) (w : World) : Sl k w (.slice none 0 0) [] := .inl ⟨rfl, rfl⟩
theorem Sl.lt {k : IntKind} {w : World} {v : Value} {l : List Int} (h : Sl k w v l) {b : Nat} (hb : blkOf v = some b) : b < w.heap.size := by
 rcases h with ⟨_, rfl⟩ | ⟨b', pad, rfl, hB⟩
 ·cases hb
 ·cases hb; exact hB.lt
theorem Sl.fr {k : IntKind} {w w' : World} {P : Nat → Prop} {v : Value} {l : List Int} (h : Sl k w v l) (f : Fr w w' P) (ho : ∀ b, blkOf v = some b → ¬ P b) : Sl k w' v l := by
 rcases h with h | ⟨b, pad, rfl, hB⟩
 ·exact .inl h
 ·exact .inr ⟨b, pad, rfl, hB.fr f (ho b rfl)⟩
theorem Sl.read {k : IntKind} {w : World} {v : Value} {l : List Int} (h : Sl k w v l) : ∃ A c, v = .slice A l.length c ∧ l.length ≤ c ∧ Rd w A (nums k l) ∧ (∀ p, A = some p → blkOf v = some p.block) := by
 rcases h with ⟨rfl, rfl⟩ | ⟨b, pad, rfl, hB⟩
 ·exact ⟨none, 0, rfl, Nat.le_refl _, .inl rfl, fun p e => by cases e⟩
 ·refine ⟨_, _, rfl, by omega, hB.rd 0 (n := l.length) ?_, fun p e => by cases e; rfl⟩
  rw[List.drop_zero,nums_take]; simp
theorem Sl.rdOf {k : IntKind} {w : World} {A : Option Addr} {n c : Nat} {l : List Int} (h : Sl k w (.slice A n c) l) : Rd w A (nums k l) := by
 obtain ⟨A', c', e, _, hr, _⟩ := h.read
 cases e; exact hr
def freshV (w : World) (v : Value) : Prop := ∀ b, blkOf v = some b → w.heap.size ≤ b
theorem zeroCells_list (v : Value) (n : Nat) : (Builtin.zeroCells #[v] n).toList = List.replicate n v := by
 apply List.ext_getElem
 ·simp[Builtin.zeroCells]
 ·intro i h1 h2
  simp[Builtin.zeroCells,Nat.mod_one]
theorem madeCells_list (v : Value) (n : Nat) : (madeCells #[v] n).toList = List.replicate n v := by
 apply List.ext_getElem
 ·simp[madeCells]
 ·intro i h1 h2
  simp[madeCells,Nat.mod_one]
theorem Rd.cells {w : World} {A : Option Addr} {vs : List Value} (h : Rd w A vs) : 0 < vs.length → ∃ p, A = some p ∧ cellsAt w p vs := fun h0 => by
 obtain ⟨p, e, _, hc⟩ := h.get h0; exact ⟨p, e, hc⟩
structure Apd (k : IntKind) (w : World) (x : Value) (l : List Int) (v : Value) (w' : World) : Prop where
 sl : Sl k w' v l
 where_ : blkOf v = blkOf x ∨ freshV w v
 fr : Fr w w' (fun b => blkOf x = some b)
theorem appC_num {k : IntKind} {e bytes : Nat} {w : World} {A : Option Addr} {n c m : Nat} {l l' : List Int} {K : Value → World → Prop} (hx : Sl k w (.slice A n c) l) (hm : l'.length = m)
  (hs : (l.length + l'.length) * bytes ≤ 140737488355328) (hb : 0 < bytes) (hK : ∀ v w', Apd k w (.slice A n c) (l ++ l') v w' → K v w') : appC e 1 bytes #[.int k 0] A n c m (nums k l') w K := by
 have hn : n = l.length := by
  rcases hx with ⟨rfl, e⟩ | ⟨b, pad, e, _⟩ <;> cases e <;> rfl
 subst hn
 subst hm
 constructor
 ·intro hc
  by_cases h0 : l'.length = 0
  ·refine .inl ⟨h0, hK _ _ ⟨?_, .inl rfl, Fr.refl _ _⟩⟩
   rw[List.length_eq_zero_iff.1 h0,List.append_nil]; exact hx
  ·rcases hx with ⟨rfl, e⟩ | ⟨b, pad, e, hB⟩
   ·cases e; exact absurd hc (by simp only[List.length_nil]; omega)
   ·cases e
    have hlp : l'.length ≤ pad.length := by omega
    refine .inr ⟨b, 0, rfl, nums_one _ _, fun j hj => ?_, fun j hj => hB.frozen _, hK _ _ ?_⟩
    ·rw[nums_length] at hj
     exact hB.isSome (by rw[nums_length,List.length_append]; omega)
    ·have hp := put_cells hB (0 + l.length * 1) (nums k l') (by simp only[nums_length,List.length_append]; omega)
     have e : (nums k (l ++ pad)).take (0 + l.length * 1) ++ nums k l' ++ (nums k (l ++ pad)).drop (0 + l.length * 1 + (nums k l').length) = nums k ((l ++ l') ++ pad.drop l'.length) := by
      rw[nums_length,nums_take,nums_drop,nums_append k (l ++ l'),nums_append k l l']
      have e1 : (l ++ pad).take (0 + l.length * 1) = l := by simp
      have e2 : (l ++ pad).drop (0 + l.length * 1 + l'.length) = pad.drop l'.length := by rw[List.drop_append]; simp
      rw[e1,e2]
     rw[e] at hp
     refine ⟨.inr ⟨b, pad.drop l'.length, ?_, hp.blk⟩, .inl rfl, ?_⟩
     ·simp only[List.length_append,List.length_drop]
      congr 1; omega
     ·exact hp.fr.mono fun x _ hx => by subst hx; rfl
 ·intro hc
  refine ⟨nums k l, by simp[nums_length], fun h0 => ?_, by omega, ?_, hb, fun c' h1 h2 => hK _ _ ?_⟩
  ·rcases hx with ⟨rfl, e⟩ | ⟨b, pad, e, hB⟩
   ·simp at h0
   ·cases e
    have : Rd w (some ⟨b, 0, none⟩) (nums k l) := hB.rd 0 (n := l.length) (by rw[List.drop_zero,nums_take]; simp)
    exact this.cells (by rw[nums_length]; exact h0)
  ·have : l.length + l'.length ≤ (l.length + l'.length) * bytes := Nat.le_mul_of_pos_right _ hb
   omega
  ·have hz : ((nums k l ++ nums k l').toArray ++ Builtin.zeroCells #[.int k 0] (c' - (l.length + l'.length))).toList = nums k ((l ++ l') ++ List.replicate (c' - (l.length + l'.length)) 0) := by
    rw[Array.toList_append,zeroCells_list,nums_append,nums_append,nums_replicate]
   have hN := new_of (w := w.drew) (t := e) rfl hz
   refine ⟨.inr ⟨w.heap.size, List.replicate (c' - (l.length + l'.length)) 0, ?_, hN.blk⟩, .inr fun b hb => ?_, ?_⟩
   ·simp only[List.length_append,List.length_replicate]
    congr 1; omega
   ·cases hb; exact Nat.le_refl _
   ·have f := hN.fr (fun b => blkOf (.slice A l.length c) = some b)
    exact ⟨(below_drewN' (Below.refl 0 w) 1).trans f.base, fun b h1 h2 => f.block b h1 h2⟩
theorem app_num {k : IntKind} {e bytes : Nat} {w : World} {x : Value} {B : Option Addr} {m d : Nat} {l l' : List Int} {K : Value → World → Prop} (hx : Sl k w x l) (hm : l'.length = m) (hy : Rd w B (nums k l'))
  (hs : (l.length + l'.length) * bytes ≤ 140737488355328) (hb : 0 < bytes) (hK : ∀ v w', Apd k w x (l ++ l') v w' → K v w') : appK e 1 bytes #[.int k 0] x (.slice B m d) w K := by
 obtain ⟨A, c, rfl, _⟩ := hx.read
 exact ⟨nums k l', by rw[nums_length]; omega, fun h0 => hy.cells (by rw[nums_length]; omega), appC_num hx hm hs hb hK⟩
theorem appz_num {k kn : IntKind} {e bytes : Nat} {w : World} {x : Value} {n : Int} {l : List Int} {K : Value → World → Prop} (hx : Sl k w x l) (h0 : 0 ≤ n)
  (hs : (l.length + n.toNat) * bytes ≤ 140737488355328) (hb : 0 < bytes) (hK : ∀ v w', Apd k w x (l ++ List.replicate n.toNat 0) v w' → K v w') : appzK e 1 bytes #[.int k 0] x (.int kn n) w K := by
 obtain ⟨A, c, rfl, _⟩ := hx.read
 have h1 : (n.toNat : Int) = n := by omega
 have h2 : n.toNat * bytes ≤ (l.length + n.toNat) * bytes := Nat.mul_le_mul_right _ (by omega)
 have h3 : n.toNat ≤ n.toNat * bytes := Nat.le_mul_of_pos_right _ hb
 have h4 : n * (bytes : Int) = ((n.toNat * bytes : Nat) : Int) := by rw[Int.natCast_mul,h1]
 refine ⟨h0, by rw[h4]; omega, by omega, rfl, ?_⟩
 rw[zeroCells_list,← nums_replicate]
 exact appC_num hx (by simp) (by simpa using hs) hb hK
theorem bsl1 {k : IntKind} {e : Nat} {a : Int} {w : World} {K : Value → World → Prop} (hK : ∀ w', New w w' (nums k [a]) → K (.slice (some ⟨w.heap.size, 0, none⟩) 1 1) w') : bslT e 1 1 #[.int k 0] [(0, .int k a)] w K .mk :=
 ⟨#[.int k a], by kernel_rfl, hK _ (new_of rfl rfl)⟩
theorem bsl4 {k : IntKind} {e : Nat} {a b c d : Int} {w : World} {K : Value → World → Prop} (hK : ∀ w', New w w' (nums k [a, b, c, d]) → K (.slice (some ⟨w.heap.size, 0, none⟩) 4 4) w') : bslT e 1 4 #[.int k 0] [(0, .int k a), (1, .int k b), (2, .int k c), (3, .int k d)] w K .mk :=
 ⟨#[.int k a, .int k b, .int k c, .int k d], by kernel_rfl, hK _ (new_of rfl rfl)⟩
theorem New.sl {k : IntKind} {w w' : World} {l : List Int} (h : New w w' (nums k l)) : Sl k w' (.slice (some ⟨w.heap.size, 0, none⟩) l.length l.length) l := .inr ⟨w.heap.size, [], by simp, by simpa using h.blk⟩
theorem New.rdl {k : IntKind} {w w' : World} {l : List Int} (h : New w w' (nums k l)) : Rd w' (some ⟨w.heap.size, 0, none⟩) (nums k l) := h.blk.rd 0 (n := l.length) (by rw[List.drop_zero,nums_take]; simp)
theorem Rd.sub {w : World} {A : Option Addr} {k : IntKind} {l : List Int} (h : Rd w A (nums k l)) (o : Nat) : Rd w (A.map (·.add o)) (nums k (l.drop o)) := by
 rcases h with h | ⟨p, e, hp, hc⟩
 ·left
  have : l = [] := by cases l with | nil => rfl | cons => cases h
  subst this; simp[nums]
 ·right
  subst e
  refine ⟨p.add o, rfl, by rw[add_block]; exact hp, ?_⟩
  rw[← nums_drop]; exact hc.sub o
theorem Rd.take {w : World} {A : Option Addr} {k : IntKind} {l : List Int} (h : Rd w A (nums k l)) (n : Nat) : Rd w A (nums k (l.take n)) := by
 rcases h with h | ⟨p, e, hp, hc⟩
 ·left
  have : l = [] := by cases l with | nil => rfl | cons => cases h
  subst this; simp[nums]
 ·exact .inr ⟨p, e, hp, by rw[← nums_take]; exact hc.take n⟩
def subA (A : Option Addr) (c lo sz : Nat) : Option Addr := if c = lo then A else A.map (·.add (lo * sz))
theorem add_zero' (p : Addr) : p.add 0 = p := by unfold Addr.add; simp
theorem map_add_zero (A : Option Addr) : A.map (·.add 0) = A := by cases A <;> simp[add_zero']
theorem r_slc_hi (sz x h) (ρ : Env) (w : World) (K) : rW (.slc sz x none (some h) none) ρ w K = slK (ev ρ x) fun A n c => intK (ev ρ h) fun hi => 0 ≤ hi ∧ hi ≤ c ∧ K (.slice A hi.toNat c) := by
 rw[r_slc]
 generalize ev ρ x = X
 simp only[Option.map_some,Option.map_none]
 generalize ev ρ h = H
 cases X <;> first | rfl | skip
 cases H <;> first | rfl | skip
 simp only[slK,optK,intK,Option.getD_none,Option.getD_some,Int.toNat_zero,Nat.zero_mul,map_add_zero,ite_self,Nat.sub_zero,Int.toNat_natCast,Int.le_refl,true_and,Option.isSome_none,Bool.false_eq_true,false_implies]
theorem r_slc_lo (sz x l) (ρ : Env) (w : World) (K) : rW (.slc sz x (some l) none none) ρ w K = slK (ev ρ x) fun A n c => intK (ev ρ l) fun lo => 0 ≤ lo ∧ lo ≤ n ∧ n ≤ c ∧ K (.slice (subA A c lo.toNat sz) (n - lo.toNat) (c - lo.toNat)) := by
 rw[r_slc]
 generalize ev ρ x = X
 simp only[Option.map_some,Option.map_none]
 generalize ev ρ l = H
 cases X <;> first | rfl | skip
 cases H <;> first | rfl | skip
 simp only[slK,optK,intK,Option.getD_none,Option.getD_some,Int.toNat_natCast,Int.le_refl,true_and,Option.isSome_none,Bool.false_eq_true,false_implies,subA,Int.ofNat_le]
theorem r_slc_lh (sz x l h) (ρ : Env) (w : World) (K) : rW (.slc sz x (some l) (some h) none) ρ w K = slK (ev ρ x) fun A n c => intK (ev ρ l) fun lo => intK (ev ρ h) fun hi => 0 ≤ lo ∧ lo ≤ hi ∧ hi ≤ c ∧ K (.slice (subA A c lo.toNat sz) (hi.toNat - lo.toNat) (c - lo.toNat)) := by
 rw[r_slc]
 generalize ev ρ x = X
 simp only[Option.map_some,Option.map_none]
 generalize ev ρ l = L
 generalize ev ρ h = H
 cases X <;> first | rfl | skip
 cases L <;> first | rfl | skip
 cases H <;> first | rfl | skip
 simp only[slK,optK,intK,Option.getD_none,Option.getD_some,Int.toNat_natCast,Int.le_refl,true_and,Option.isSome_none,Bool.false_eq_true,false_implies,subA]
theorem i_slc_hi (P : Program) (sz x h) (ρ : Env) (w : World) (K) : iW P (.slc sz x none (some h) none) ρ w K = slK (ev ρ x) fun A n c => intK (ev ρ h) fun hi => 0 ≤ hi ∧ hi ≤ c ∧ K (.slice A hi.toNat c) w := r_slc_hi sz x h ρ w (fun v => K v w)
theorem i_slc_lo (P : Program) (sz x l) (ρ : Env) (w : World) (K) : iW P (.slc sz x (some l) none none) ρ w K = slK (ev ρ x) fun A n c => intK (ev ρ l) fun lo => 0 ≤ lo ∧ lo ≤ n ∧ n ≤ c ∧ K (.slice (subA A c lo.toNat sz) (n - lo.toNat) (c - lo.toNat)) w := r_slc_lo sz x l ρ w (fun v => K v w)
theorem i_slc_lh (P : Program) (sz x l h) (ρ : Env) (w : World) (K) : iW P (.slc sz x (some l) (some h) none) ρ w K = slK (ev ρ x) fun A n c => intK (ev ρ l) fun lo => intK (ev ρ h) fun hi => 0 ≤ lo ∧ lo ≤ hi ∧ hi ≤ c ∧ K (.slice (subA A c lo.toNat sz) (hi.toNat - lo.toNat) (c - lo.toNat)) w := r_slc_lh sz x l h ρ w (fun v => K v w)
theorem q_slc_hi (P : Program) (sz x h) (ρ : Env) (w : World) (K) : qW P (.slc sz x none (some h) none) ρ w K = slK (ev ρ x) fun A n c => intK (ev ρ h) fun hi => 0 ≤ hi ∧ hi ≤ c ∧ K (.slice A hi.toNat c) := r_slc_hi sz x h ρ w _
theorem q_slc_lo (P : Program) (sz x l) (ρ : Env) (w : World) (K) : qW P (.slc sz x (some l) none none) ρ w K = slK (ev ρ x) fun A n c => intK (ev ρ l) fun lo => 0 ≤ lo ∧ lo ≤ n ∧ n ≤ c ∧ K (.slice (subA A c lo.toNat sz) (n - lo.toNat) (c - lo.toNat)) := r_slc_lo sz x l ρ w _
theorem q_slc_lh (P : Program) (sz x l h) (ρ : Env) (w : World) (K) : qW P (.slc sz x (some l) (some h) none) ρ w K = slK (ev ρ x) fun A n c => intK (ev ρ l) fun lo => intK (ev ρ h) fun hi => 0 ≤ lo ∧ lo ≤ hi ∧ hi ≤ c ∧ K (.slice (subA A c lo.toNat sz) (hi.toNat - lo.toNat) (c - lo.toNat)) := r_slc_lh sz x l h ρ w _
theorem nums_isNil {k : IntKind} {l : List Int} (h : nums k l = []) : l = [] := by
 cases l with
 | nil => rfl
 | cons => cases h
theorem Rd.subA {w : World} {A : Option Addr} {k : IntKind} {l : List Int} (h : Rd w A (nums k l)) (c o : Nat) (hc : l.length ≤ c) : Rd w (subA A c o 1) (nums k (l.drop o)) := by
 unfold Eng.subA
 split
 ·rename_i e
  left; rw[List.drop_eq_nil_of_le (by omega)]; rfl
 ·rw[Nat.mul_one]; exact h.sub o
theorem offA.subA {A : Option Addr} {P : Nat → Prop} (h : offA A P) (c o s : Nat) : offA (subA A c o s) P := by
 unfold Eng.subA
 split
 ·exact h
 ·intro p hp
  cases A with
  | none => cases hp
  | some q => cases hp; rw[add_block]; exact h q rfl
def RO (k : IntKind) (w : World) (A : Option Addr) (l : List Int) (P : Nat → Prop) : Prop := l = [] ∨ ∃ p, A = some p ∧ p.block < w.heap.size ∧ ¬ P p.block ∧ cellsAt w p (nums k l)
theorem RO.rd {k : IntKind} {w : World} {A : Option Addr} {l : List Int} {P : Nat → Prop} (h : RO k w A l P) : Rd w A (nums k l) := by
 rcases h with rfl | ⟨p, e, h1, _, h2⟩
 ·exact .inl rfl
 ·exact .inr ⟨p, e, h1, h2⟩
theorem RO.fr {k : IntKind} {w w' : World} {A : Option Addr} {l : List Int} {P : Nat → Prop} (h : RO k w A l P) (f : Fr w w' P) : RO k w' A l P := by
 rcases h with h | ⟨p, e, h1, h2, h3⟩
 ·exact .inl h
 ·exact .inr ⟨p, e, Nat.lt_of_lt_of_le h1 f.size, h2, h3.fr f h1 h2⟩
theorem RO.subA {k : IntKind} {w : World} {A : Option Addr} {l : List Int} {P : Nat → Prop} (h : RO k w A l P) (c o : Nat) (hc : l.length ≤ c) : RO k w (subA A c o 1) (l.drop o) P := by
 rcases h with rfl | ⟨p, e, h1, h2, h3⟩
 ·exact .inl (by simp)
 ·unfold Eng.subA
  split
  ·left; exact List.drop_eq_nil_of_le (by omega)
  ·subst e
   rw[Nat.mul_one]
   exact .inr ⟨p.add o, rfl, by rw[add_block]; exact h1, by rw[add_block]; exact h2, by rw[← nums_drop]; exact h3.sub o⟩
theorem RO.take {k : IntKind} {w : World} {A : Option Addr} {l : List Int} {P : Nat → Prop} (h : RO k w A l P) (n : Nat) : RO k w A (l.take n) P := by
 rcases h with rfl | ⟨p, e, h1, h2, h3⟩
 ·exact .inl (by simp)
 ·exact .inr ⟨p, e, h1, h2, by rw[← nums_take]; exact h3.take n⟩
theorem RO.mono {k : IntKind} {w : World} {A : Option Addr} {l : List Int} {P Q : Nat → Prop} (h : RO k w A l P) (hq : ∀ b, b < w.heap.size → Q b → P b) : RO k w A l Q := by
 rcases h with h | ⟨p, e, h1, h2, h3⟩
 ·exact .inl h
 ·exact .inr ⟨p, e, h1, fun x => h2 (hq _ h1 x), h3⟩
theorem Sl.drewN {k : IntKind} {w : World} {v : Value} {l : List Int} (h : Sl k w v l) (n : Nat) : Sl k (w.drewN n) v l := h.fr (Fr.drewN w n nob) (fun _ _ x => x)
theorem Sl.cut {k : IntKind} {w : World} {A : Option Addr} {n c m : Nat} {l : List Int} (h : Sl k w (.slice A n c) l) (hm : m ≤ l.length) (h0 : 0 < l.length) : Sl k w (.slice A m c) (l.take m) := by
 rcases h with ⟨rfl, e⟩ | ⟨b, pad, e, hB⟩
 ·simp at h0
 ·cases e
  refine .inr ⟨b, l.drop m ++ pad, ?_, ?_⟩
  ·simp only[List.length_take,List.length_append,List.length_drop]
   rw[Nat.min_eq_left hm]
   congr 1; omega
  ·rw[← List.append_assoc,List.take_append_drop]; exact hB
structure Gw (k : IntKind) (w0 w : World) (v : Value) (l : List Int) : Prop where
 sl : Sl k w v l
 up : ∀ b, blkOf v = some b → w0.heap.size ≤ b
 fr : Fr w0 w nob
theorem Gw.nil (k : IntKind) (w : World) : Gw k w w (.slice none 0 0) [] := ⟨Sl.nil _ _, fun b e => (by cases e), Fr.refl _ _⟩
theorem Gw.apd {k : IntKind} {w0 w w' : World} {v v' : Value} {l l' : List Int} (g : Gw k w0 w v l) (a : Apd k w v l' v' w') : Gw k w0 w' v' l' :=
 ⟨a.sl, fun b e => by
  rcases a.where_ with h | h
  ·exact g.up b (h ▸ e)
  ·exact Nat.le_trans g.fr.size (h b e), g.fr.trans a.fr fun x hx e => by have := g.up x e; omega⟩
theorem Gw.step {k : IntKind} {w0 w w' : World} {v : Value} {l : List Int} (g : Gw k w0 w v l) (f : Fr w w' nob) : Gw k w0 w' v l :=
 ⟨g.sl.fr f fun b _ x => x, g.up, g.fr.trans f fun x _ e => e⟩
theorem Gw.new {k : IntKind} {w0 w w' : World} {v : Value} {l : List Int} {cs : List Value} (g : Gw k w0 w v l) (n : New w w' cs) : Gw k w0 w' v l := g.step (n.fr nob)
theorem Gw.drewN {k : IntKind} {w0 w : World} {v : Value} {l : List Int} (g : Gw k w0 w v l) (n : Nat) : Gw k w0 (w.drewN n) v l := g.step (Fr.drewN w n nob)
theorem Gw.other {k : IntKind} {w0 w w' : World} {v : Value} {l : List Int} (g : Gw k w0 w v l) {P : Nat → Prop} (f : Fr w w' P) (h1 : ∀ b, blkOf v = some b → ¬ P b) (h2 : ∀ b, b < w0.heap.size → ¬ P b) : Gw k w0 w' v l :=
 ⟨g.sl.fr f h1, g.up, g.fr.trans f fun x hx e => h2 x hx e⟩
end Go.Proofs.YtcgplgpdcfocpaaGreatDoor.Eng
end
section
namespace Go.Proofs.YtcgplgpdcfocpaaGreatDoor.Eng
open Go Go.RowKit
theorem freeze_other (w : World) (a : Addr) (n b : Nat) (h : b ≠ a.block) : (w.freeze a n).heap[b]? = w.heap[b]? := by
 unfold World.freeze
 split
 ·rfl
 ·simp only[Array.getElem?_modify]
  rw[if_neg (fun e => h e.symm)]
theorem freeze_cell (w : World) (a : Addr) (n : Nat) (p : Addr) : (w.freeze a n).cell? p = w.cell? p := by
 unfold World.freeze
 split
 ·rfl
 ·unfold World.cell?
  simp only[Array.getElem?_modify]
  by_cases h : a.block = p.block
  ·rw[if_pos h]
   generalize w.heap[p.block]? = o
   cases o with
   | none => rfl
   | some o => cases o with
    | cells c e f => cases f; rfl
    | _ => rfl
  ·rw[if_neg h]
theorem freeze_fr (w : World) (a : Addr) (n : Nat) : Fr w (w.freeze a n) (fun b => b = a.block) := by
 refine ⟨⟨?_, ?_, ?_, ?_, fun k hk => by omega⟩, fun b _ hb => freeze_other w a n b hb⟩
 all_goals unfold World.freeze; split <;> simp
theorem mark_fr (w : World) (a : Addr) : Fr w (markW w a) (fun b => b = a.block) := by
 unfold markW
 split
 ·exact freeze_fr _ _ _
 ·exact Fr.refl _ _
theorem mark_cell (w : World) (a p : Addr) : (markW w a).cell? p = w.cell? p := by
 unfold markW
 split
 ·exact freeze_cell _ _ _ _
 ·rfl
theorem Rd.mark {w : World} {a : Addr} {A : Option Addr} {vs : List Value} (h : Rd w A vs) : Rd (markW w a) A vs := by
 rcases h with h | ⟨p, e, hp, hc⟩
 ·exact .inl h
 ·exact .inr ⟨p, e, Nat.lt_of_lt_of_le hp (mark_fr w a).size, fun j v hj => by rw[mark_cell]; exact hc j v hj⟩
def cvidT (x : Value) (w : World) (K : Value → World → Prop) (_ : Tok K) : Prop := slK x fun A n c => ∃ a, A = some a ∧ K (.slice A n c) (markW w a)
theorem i_cvidT (P : Program) (x) (ρ : Env) (w : World) (K) : iW P (.cvid x) ρ w K = cvidT (ev ρ x) w K .mk := (rfl)
theorem cvid_k {w : World} {b n c : Nat} {K : Value → World → Prop} {l : List Int} {k : IntKind} (h : Rd w (some ⟨b, 0, none⟩) (nums k l)) (hK : ∀ w', Fr w w' (fun x => x = b) → Rd w' (some ⟨b, 0, none⟩) (nums k l) → K (.slice (some ⟨b, 0, none⟩) n c) w') : cvidT (.slice (some ⟨b, 0, none⟩) n c) w K .mk :=
 ⟨_, rfl, hK _ (mark_fr w _) h.mark⟩
def cvbsJ (x : Value) (w : World) (K : Value → Prop) (_ : Tok K) : Prop := slK x fun A n _ => ∃ xs : List Int, xs.length = n ∧ (0 < n → ∃ p, A = some p ∧ cellsAt w p (xs.map (Value.int .u8))) ∧ K (.string (strOfNums xs))
theorem i_cvbsJ (P : Program) (x) (ρ : Env) (w : World) (K) : iW P (.cvbs x) ρ w K = cvbsJ (ev ρ x) w (fun v => K v w) .mk := (rfl)
theorem cvbs_k {w : World} {A : Option Addr} {n c : Nat} {K : Value → Prop} {l : List Int} {t : Eng.Tok K} (h : Rd w A (nums .u8 l)) (hl : l.length = n) (hK : K (.string (strOfNums l))) : cvbsJ (.slice A n c) w K t :=
 ⟨l, hl, fun h0 => h.cells (by rw[nums_length]; omega), hK⟩
theorem eql_k {a b : ByteArray} {K : Value → Prop} (h : (a.toList == b.toList) = true) (hK : K (.bool true)) : binK .eql (.string a) (.string b) K := by rw[b_seql,h]; exact hK
theorem bsl3 {k : IntKind} {e : Nat} {a b c : Int} {w : World} {K : Value → World → Prop} (hK : ∀ w', New w w' (nums k [a, b, c]) → K (.slice (some ⟨w.heap.size, 0, none⟩) 3 3) w') : bslT e 1 3 #[.int k 0] [(0, .int k a), (1, .int k b), (2, .int k c)] w K .mk :=
 ⟨#[.int k a, .int k b, .int k c], by kernel_rfl, hK _ (new_of rfl rfl)⟩
theorem bslS1 {e : Nat} {A : Option Addr} {n c : Nat} {w : World} {K : Value → World → Prop} (hK : ∀ w', New w w' [.slice A n c] → K (.slice (some ⟨w.heap.size, 0, none⟩) 1 1) w') : bslT e 1 1 #[.slice none 0 0] [(0, .slice A n c)] w K .mk :=
 ⟨#[.slice A n c], by kernel_rfl, hK _ (new_of rfl rfl)⟩
theorem bslS2 {e : Nat} {A B : Option Addr} {n c m d : Nat} {w : World} {K : Value → World → Prop} (hK : ∀ w', New w w' [.slice A n c, .slice B m d] → K (.slice (some ⟨w.heap.size, 0, none⟩) 2 2) w') : bslT e 1 2 #[.slice none 0 0] [(0, .slice A n c), (1, .slice B m d)] w K .mk :=
 ⟨#[.slice A n c, .slice B m d], by kernel_rfl, hK _ (new_of rfl rfl)⟩
theorem bslS3 {e : Nat} {A B C : Option Addr} {n c m d o f : Nat} {w : World} {K : Value → World → Prop} (hK : ∀ w', New w w' [.slice A n c, .slice B m d, .slice C o f] → K (.slice (some ⟨w.heap.size, 0, none⟩) 3 3) w') : bslT e 1 3 #[.slice none 0 0] [(0, .slice A n c), (1, .slice B m d), (2, .slice C o f)] w K .mk :=
 ⟨#[.slice A n c, .slice B m d, .slice C o f], by kernel_rfl, hK _ (new_of rfl rfl)⟩
theorem New.rdv {w w' : World} {l : List Value} (h : New w w' l) : Rd w' (some ⟨w.heap.size, 0, none⟩) l := h.blk.rd 0 (n := l.length) (by simp)
end Go.Proofs.YtcgplgpdcfocpaaGreatDoor.Eng
end
section
set_option linter.defProp false
namespace Go.Proofs.YtcgplgpdcfocpaaGreatDoor.Eng
open Go Go.RowKit
def EP :=
 And.intro @W_ops <|
 And.intro @W_draw <|
 And.intro @W_drawS <|
 And.intro @W_drawT <|
 And.intro @scrT_nil <|
 And.intro @scrT_cov <|
 And.intro @scrT_p <|
 And.intro @scrT_q <|
 And.intro @scrT_f <|
 And.intro @scrT_one <|
 And.intro @scrT_more <|
 And.intro @scrX_p <|
 And.intro @scrX_q <|
 And.intro @scrX_l <|
 And.intro @scrX_l0 <|
 And.intro @scrX_f <|
 And.intro @allC_nil <|
 And.intro @allC_cons <|
 And.intro @scrW_nil <|
 And.intro @scrW_cons <|
 And.intro @scrO_p <|
 And.intro @scrO_q <|
 And.intro @scrO_f <|
 And.intro @scrO_f0 <|
 And.intro @scrO_pg <|
 And.intro @scrO_qg <|
 And.intro @q_ixs <|
 And.intro @q_lens <|
 And.intro @q_bld <|
 And.intro @i_lens <|
 And.intro @i_ixs <|
 And.intro @i_sls <|
 And.intro @i_mki <|
 And.intro @i_cvss <|
 And.intro @i_apps <|
 And.intro @i_appz <|
 And.intro @i_bsl0 <|
 And.intro @i_rgs <|
 And.intro @i_raw <|
 And.intro @i_nxs <|
 And.intro @i_ixa <|
 And.intro @aggK_val <|
 And.intro @i_no <|
 And.intro @i_min2 <|
 And.intro @i_max2 <|
 And.intro @r_mv <|
 And.intro @r_bin <|
 And.intro @r_un <|
 And.intro @r_cv <|
 And.intro @r_fa <|
 And.intro @r_ia <|
 And.intro @r_iaA <|
 And.intro @r_ext <|
 And.intro @r_len <|
 And.intro @r_lens <|
 And.intro @r_nilc <|
 And.intro @r_eq <|
 And.intro @r_bld <|
 And.intro @strK_val <|
 And.intro @minK_val <|
 And.intro @maxK_val <|
 And.intro @W_skip <|
 And.intro @W_ret <|
 And.intro @W_exit <|
 And.intro @W_seq <|
 And.intro @W_cond <|
 And.intro @W_block <|
 And.intro @W_loop <|
 And.intro @seqK_normal <|
 And.intro @seqK_exit <|
 And.intro @seqK_ret <|
 And.intro @blkK_normal <|
 And.intro @blkK_exit <|
 And.intro @blkK_ret <|
 And.intro @retK_normal <|
 And.intro @retK_ret <|
 And.intro @resK_nil <|
 And.intro @resK_tmp <|
 And.intro @resK_cell <|
 And.intro @opsW_nil <|
 And.intro @opsW_cons <|
 And.intro @opsW_cons0 <|
 And.intro @opsW_gd <|
 And.intro @opsW_gd0 <|
 And.intro @qopsW_nil <|
 And.intro @qopsW_cons <|
 And.intro @qopsW_cons0 <|
 And.intro @qopsW_gd <|
 And.intro @i_mv <|
 And.intro @i_pick <|
 And.intro @i_ld <|
 And.intro @i_nilc <|
 And.intro @i_bin <|
 And.intro @i_eq <|
 And.intro @i_un <|
 And.intro @i_cv <|
 And.intro @i_fa <|
 And.intro @i_ia <|
 And.intro @i_iaA <|
 And.intro @i_ext <|
 And.intro @i_len <|
 And.intro @i_cap <|
 And.intro @i_bld <|
 And.intro @i_st <|
 And.intro @i_alloc <|
 And.intro @i_box <|
 And.intro @i_bsl <|
 And.intro @i_mks <|
 And.intro @i_call <|
 And.intro @i_app <|
 And.intro @i_slc_hi <|
 And.intro @i_slc_lo <|
 And.intro @i_slc_lh <|
 And.intro @q_slc_hi <|
 And.intro @q_slc_lo <|
 And.intro @q_slc_lh <|
 And.intro @r_slc_hi <|
 And.intro @r_slc_lo <|
 And.intro @r_slc_lh <|
 And.intro @i_sla <|
 And.intro @q_mv <|
 And.intro @q_pick <|
 And.intro @q_ld <|
 And.intro @q_nilc <|
 And.intro @q_bin <|
 And.intro @q_eq <|
 And.intro @q_un <|
 And.intro @q_cv <|
 And.intro @q_fa <|
 And.intro @q_ia <|
 And.intro @q_iaA <|
 And.intro @q_ext <|
 And.intro @q_len <|
 And.intro @q_call <|
 And.intro @letK_val <|
 And.intro @boolK_val <|
 And.intro @intK_val <|
 And.intro @ptrK_val <|
 And.intro @slK_val <|
 And.intro @tupK_20 <|
 And.intro @tupK_21 <|
 And.intro @tupK_30 <|
 And.intro @tupK_31 <|
 And.intro @tupK_32 <|
 And.intro @tupK_40 <|
 And.intro @tupK_41 <|
 And.intro @tupK_42 <|
 And.intro @tupK_43 <|
 And.intro @optK_none <|
 And.intro @optK_some <|
 And.intro @ld_int <|
 And.intro @ld_bool <|
 And.intro @ld_string <|
 And.intro @ld_pointer <|
 And.intro @ld_slice <|
 And.intro @ld_other <|
 And.intro @b_add <|
 And.intro @b_sub <|
 And.intro @b_mul <|
 And.intro @b_quo <|
 And.intro @b_rem <|
 And.intro @b_and <|
 And.intro @b_or <|
 And.intro @b_xor <|
 And.intro @b_andNot <|
 And.intro @b_eql <|
 And.intro @b_neq <|
 And.intro @b_lss <|
 And.intro @b_leq <|
 And.intro @b_gtr <|
 And.intro @b_geq <|
 And.intro @b_shl <|
 And.intro @b_shr <|
 And.intro @b_sadd <|
 And.intro @e_bool_f <|
 And.intro @e_bool_t <|
 And.intro @e_ptr0 <|
 And.intro @e_ptr1 <|
 And.intro @u_not <|
 And.intro @u_neg <|
 And.intro @u_xor <|
 And.intro @env0_zero <|
 And.intro @env0_succ <|
 And.intro @upd_at <|
 And.intro @ev_tmp <|
 And.intro @ev_const <|
 And.intro @ev_global <|
 And.intro @i_cpy <|
 And.intro @iaK_some <|
 And.intro @ldC_int <|
 And.intro @ldC_bool <|
 And.intro @ldC_string <|
 And.intro @ldC_pointer <|
 And.intro @ldC_slice <|
 And.intro @ldC_other <|
 @ld_agg
def EQ :=
 And.intro @at_toNat <|
 And.intro @scrX_p <|
 And.intro @scrX_q <|
 And.intro @scrX_l <|
 And.intro @scrX_l0 <|
 And.intro @scrX_f <|
 And.intro @scrO_p <|
 And.intro @scrO_q <|
 And.intro @scrO_f <|
 And.intro @scrO_f0 <|
 And.intro @scrO_pg <|
 And.intro @scrO_qg <|
 And.intro @strK_val <|
 And.intro @minK_val <|
 And.intro @maxK_val <|
 And.intro @packV_nil <|
 And.intro @packV_one <|
 And.intro @packV_two <|
 And.intro @packV_three <|
 And.intro @packV_four <|
 And.intro @gB_tt <|
 And.intro @gB_ff <|
 And.intro @gB_tf <|
 And.intro @gB_ft <|
 And.intro @gB_un <|
 And.intro @letK_val <|
 And.intro @boolK_val <|
 And.intro @intK_val <|
 And.intro @ptrK_val <|
 And.intro @slK_val <|
 And.intro @tupK_20 <|
 And.intro @tupK_21 <|
 And.intro @tupK_30 <|
 And.intro @tupK_31 <|
 And.intro @tupK_32 <|
 And.intro @tupK_40 <|
 And.intro @tupK_41 <|
 And.intro @tupK_42 <|
 And.intro @tupK_43 <|
 And.intro @optK_none <|
 And.intro @optK_some <|
 And.intro @b_add <|
 And.intro @b_sub <|
 And.intro @b_mul <|
 And.intro @b_quo <|
 And.intro @b_rem <|
 And.intro @b_and <|
 And.intro @b_or <|
 And.intro @b_xor <|
 And.intro @b_andNot <|
 And.intro @b_eql <|
 And.intro @b_neq <|
 And.intro @b_lss <|
 And.intro @b_leq <|
 And.intro @b_gtr <|
 And.intro @b_geq <|
 And.intro @b_shl <|
 And.intro @b_shr <|
 And.intro @b_sadd <|
 And.intro @e_bool_f <|
 And.intro @e_bool_t <|
 And.intro @e_ptr0 <|
 And.intro @e_ptr1 <|
 And.intro @u_not <|
 And.intro @u_neg <|
 And.intro @u_xor <|
 And.intro @bits_u8 <|
 And.intro @bits_u32 <|
 And.intro @bits_u64 <|
 And.intro @bits_i64 <|
 And.intro @Addr.add_lit <|
 And.intro @Nat.mul_one <|
 And.intro @Nat.zero_add <|
 And.intro @Nat.add_zero <|
 And.intro @Int.toNat_natCast <|
 And.intro @World.cell?_drewN <|
 And.intro @World.frozen?_drewN <|
 And.intro @World.drewN_drewN <|
 And.intro @Int.cast_ofNat_Int <|
 And.intro @cells_agg <|
 And.intro @cells_int <|
 And.intro @cells_sl <|
 And.intro @cells_ptr <|
 And.intro @cells_bool <|
 And.intro @size_alloc <|
 And.intro @size_setCell <|
 And.intro @size_drewN <|
 And.intro @size_drew <|
 And.intro @setCells_size <|
 And.intro @iaK_some <|
 And.intro @ldC_int <|
 And.intro @ldC_bool <|
 And.intro @ldC_string <|
 And.intro @ldC_pointer <|
 And.intro @ldC_slice <|
 @ldC_other
def EO :=
 And.intro @w64 <|
 And.intro @tmod_nn <|
 And.intro @tdiv_nn <|
 And.intro @eq_t <|
 And.intro @eq_f <|
 And.intro @lt_t <|
 And.intro @lt_f <|
 And.intro @le_t <|
 And.intro @le_f <|
 And.intro @nlt_t <|
 And.intro @nlt_f <|
 And.intro @nle_t <|
 @nle_f
def EM :=
 And.intro @eq_self.{1} <|
 And.intro @List.getElem?_cons_zero.{0} <|
 And.intro @List.getElem?_cons_succ.{0} <|
 And.intro @List.length_cons.{0} <|
 And.intro @List.length_nil.{0} <|
 And.intro @List.map_cons.{0,0} <|
 And.intro @List.map_nil.{0,0} <|
 And.intro @List.take_succ_cons.{0} <|
 And.intro @List.take_zero.{0} <|
 And.intro @List.drop_succ_cons.{0} <|
 And.intro @List.drop_zero.{0} <|
 And.intro @Option.map_none.{0,0} <|
 And.intro @Option.map_some.{0,0} <|
 And.intro @Option.getD_none.{0} <|
 And.intro @Option.getD_some.{0} <|
 And.intro @Option.isSome_some.{0} <|
 And.intro @decide_true <|
 And.intro @decide_false <|
 And.intro @decide_eq_true_eq <|
 And.intro @true_and <|
 And.intro @and_true <|
 And.intro @Bool.not_eq_true' <|
 And.intro @decide_eq_false_iff_not <|
 And.intro @if_true.{1} <|
 And.intro @if_false.{1} <|
 And.intro @not_false_eq_true <|
 And.intro @not_true_eq_false <|
 And.intro @Bool.false_eq_true <|
 And.intro @ne_eq.{1} <|
 And.intro @Nat.min_eq_left <|
 And.intro @Option.some.injEq.{0} <|
 And.intro @exists_eq_left'.{1} <|
 @forall_eq'.{1}
end Go.Proofs.YtcgplgpdcfocpaaGreatDoor.Eng
end
section
namespace Go.Proofs.YtcgplgpdcfocpaaGreatDoor.Eng
open Go Go.RowKit
theorem Rd.nb {w w' : World} {A : Option Addr} {vs : List Value} (h : Rd w A vs) (f : Fr w w' nob) : Rd w' A vs := h.fr f (.inr fun _ _ x => x)
theorem Sl.nb {k : IntKind} {w w' : World} {v : Value} {l : List Int} (h : Sl k w v l) (f : Fr w w' nob) : Sl k w' v l := h.fr f (fun _ _ x => x)
theorem Blk.nb {w w' : World} {b : Nat} {cs : List Value} (h : Blk w b cs) (f : Fr w w' nob) : Blk w' b cs := h.fr f (fun x => x)
theorem Fr.nb {a b c : World} (h : Fr a b nob) (k : Fr b c nob) : Fr a c nob := h.trans k fun _ _ e => e
theorem Fr.own {a b c : World} (h : Fr a b nob) {P : Nat → Prop} (k : Fr b c P) (hq : ∀ x, P x → a.heap.size ≤ x) : Fr a c nob := h.trans k fun x hx e => by have := hq x e; omega
theorem Fr.any {a b : World} (h : Fr a b nob) (P : Nat → Prop) : Fr a b P := h.mono fun _ _ e => e.elim
end Go.Proofs.YtcgplgpdcfocpaaGreatDoor.Eng
end
section
namespace Go.Proofs.YtcgplgpdcfocpaaGreatDoor.Eng
open Go Go.RowKit
theorem bsl2 {k : IntKind} {e : Nat} {a b : Int} {w : World} {K : Value → World → Prop} (hK : ∀ w', New w w' (nums k [a, b]) → K (.slice (some ⟨w.heap.size, 0, none⟩) 2 2) w') : bslT e 1 2 #[.int k 0] [(0, .int k a), (1, .int k b)] w K .mk :=
 ⟨#[.int k a, .int k b], by kernel_rfl, hK _ (new_of rfl rfl)⟩
def Vw (k : IntKind) (w : World) (v : Value) (l : List Int) : Prop := ∃ A c, v = .slice A l.length c ∧ l.length ≤ c ∧ Rd w A (nums k l)
theorem Vw.nb {k : IntKind} {w w' : World} {v : Value} {l : List Int} (h : Vw k w v l) (f : Fr w w' nob) : Vw k w' v l := by
 obtain ⟨A, c, e, hc, hr⟩ := h
 exact ⟨A, c, e, hc, hr.nb f⟩
theorem Sl.vw {k : IntKind} {w : World} {v : Value} {l : List Int} (h : Sl k w v l) : Vw k w v l := by
 obtain ⟨A, c, e, hc, hr, _⟩ := h.read
 exact ⟨A, c, e, hc, hr⟩
theorem Gw.vw {k : IntKind} {w w' : World} {v : Value} {l : List Int} (h : Gw k w w' v l) : Vw k w' v l := h.sl.vw
theorem Vw.nil (k : IntKind) (w : World) : Vw k w (.slice none 0 0) [] := (Sl.nil k w).vw
theorem Vw.of {k : IntKind} {w : World} {A : Option Addr} {n c : Nat} {l : List Int} (hn : l.length = n) (hc : n ≤ c) (h : Rd w A (nums k l)) : Vw k w (.slice A n c) l := by
 subst hn; exact ⟨A, c, rfl, hc, h⟩
theorem New.vw {k : IntKind} {w w' : World} {l : List Int} (h : New w w' (nums k l)) {n : Nat} (hn : l.length = n) : Vw k w' (.slice (some ⟨w.heap.size, 0, none⟩) n n) l := by
 subst hn; exact ⟨_, _, rfl, Nat.le_refl _, h.rdl⟩
theorem Gw.from {k : IntKind} {w0 w w' : World} {v : Value} {l : List Int} (g : Gw k w w' v l) (f : Fr w0 w nob) : Gw k w0 w' v l :=
 ⟨g.sl, fun b e => Nat.le_trans f.size (g.up b e), f.nb g.fr⟩
end Go.Proofs.YtcgplgpdcfocpaaGreatDoor.Eng
end
section
namespace Go.Proofs.YtcgplgpdcfocpaaGreatDoor.Eng
open Go Go.RowKit
def Sg (sz : Nat) (w : World) (v : Value) (n : Nat) (cs : List Value) : Prop :=
 cs.length = n * sz ∧ ((n = 0 ∧ v = .slice none 0 0) ∨ ∃ b q pad, v = .slice (some ⟨b, 0, none⟩) n (n + q) ∧ pad.length = q * sz ∧ Blk w b (cs ++ pad))
theorem Sg.nil (sz : Nat) (w : World) : Sg sz w (.slice none 0 0) 0 [] := ⟨by simp, .inl ⟨rfl, rfl⟩⟩
theorem Sg.lt {sz : Nat} {w : World} {v : Value} {n : Nat} {cs : List Value} (h : Sg sz w v n cs) {b : Nat} (hb : blkOf v = some b) : b < w.heap.size := by
 rcases h.2 with ⟨_, rfl⟩ | ⟨b', q, pad, rfl, _, hB⟩
 ·cases hb
 ·cases hb; exact hB.lt
theorem Sg.fr {sz : Nat} {w w' : World} {P : Nat → Prop} {v : Value} {n : Nat} {cs : List Value} (h : Sg sz w v n cs) (f : Fr w w' P) (ho : ∀ b, blkOf v = some b → ¬ P b) : Sg sz w' v n cs := by
 refine ⟨h.1, ?_⟩
 rcases h.2 with h | ⟨b, q, pad, rfl, hp, hB⟩
 ·exact .inl h
 ·exact .inr ⟨b, q, pad, rfl, hp, hB.fr f (ho b rfl)⟩
theorem Sg.nb {sz : Nat} {w w' : World} {v : Value} {n : Nat} {cs : List Value} (h : Sg sz w v n cs) (f : Fr w w' nob) : Sg sz w' v n cs := h.fr f fun _ _ x => x
theorem Sg.read {sz : Nat} {w : World} {v : Value} {n : Nat} {cs : List Value} (h : Sg sz w v n cs) : ∃ A c, v = .slice A n c ∧ n ≤ c ∧ Rd w A cs := by
 rcases h.2 with ⟨h0, rfl⟩ | ⟨b, q, pad, rfl, hp, hB⟩
 ·subst h0
  exact ⟨none, 0, rfl, Nat.le_refl _, .inl (List.length_eq_zero_iff.1 (by rw[h.1]; simp))⟩
 ·exact ⟨_, _, rfl, by omega, hB.rd 0 (n := cs.length) (by simp)⟩
structure Ag (sz : Nat) (w : World) (x : Value) (n : Nat) (cs : List Value) (v : Value) (w' : World) : Prop where
 sl : Sg sz w' v n cs
 where_ : blkOf v = blkOf x ∨ freshV w v
 fr : Fr w w' (fun b => blkOf x = some b)
structure Gg (sz : Nat) (w0 w : World) (v : Value) (n : Nat) (cs : List Value) : Prop where
 sl : Sg sz w v n cs
 up : ∀ b, blkOf v = some b → w0.heap.size ≤ b
 fr : Fr w0 w nob
theorem Gg.nil (sz : Nat) (w : World) : Gg sz w w (.slice none 0 0) 0 [] := ⟨Sg.nil _ _, fun b e => (by cases e), Fr.refl _ _⟩
theorem Gg.apd {sz : Nat} {w0 w w' : World} {v v' : Value} {n n' : Nat} {cs cs' : List Value} (g : Gg sz w0 w v n cs) (a : Ag sz w v n' cs' v' w') : Gg sz w0 w' v' n' cs' :=
 ⟨a.sl, fun b e => by
  rcases a.where_ with h | h
  ·exact g.up b (h ▸ e)
  ·exact Nat.le_trans g.fr.size (h b e), g.fr.trans a.fr fun x hx e => by have := g.up x e; omega⟩
theorem Gg.step {sz : Nat} {w0 w w' : World} {v : Value} {n : Nat} {cs : List Value} (g : Gg sz w0 w v n cs) (f : Fr w w' nob) : Gg sz w0 w' v n cs :=
 ⟨g.sl.nb f, g.up, g.fr.nb f⟩
theorem Gg.from {sz : Nat} {w0 w w' : World} {v : Value} {n : Nat} {cs : List Value} (g : Gg sz w w' v n cs) (f : Fr w0 w nob) : Gg sz w0 w' v n cs :=
 ⟨g.sl, fun b e => Nat.le_trans f.size (g.up b e), f.nb g.fr⟩
theorem Rd.at {w : World} {A : Option Addr} {cs : List Value} (h : Rd w A cs) {i : Nat} {v : Value} (hv : cs[i]? = some v) : ∃ ad, A = some ad ∧ w.cell? (ad.add i) = some v := by
 have hi := (List.getElem?_eq_some_iff.1 hv).1
 obtain ⟨ad, e, _, hc⟩ := h.get (by omega)
 exact ⟨ad, e, hc i v hv⟩
end Go.Proofs.YtcgplgpdcfocpaaGreatDoor.Eng
end
section
namespace Go.Proofs.YtcgplgpdcfocpaaGreatDoor.Eng
open Go Go.RowKit
def FW (ro : Option Nat) : Fence := { Fence.wide with round := ro }
section
variable {P : Program} {n m l : Nat} {ro : Option Nat}
theorem i_slc_hm (P : Program) (sz x h m) (ρ : Env) (w : World) (K) : iW P (.slc sz x none (some h) (some m)) ρ w K = slK (ev ρ x) fun A n c => intK (ev ρ h) fun hi => intK (ev ρ m) fun mx => 0 ≤ hi ∧ hi ≤ mx ∧ mx ≤ c ∧ K (.slice A hi.toNat mx.toNat) w := by
 rw[i_slc]
 generalize ev ρ x = X
 simp only[Option.map_some,Option.map_none]
 generalize ev ρ h = H
 generalize ev ρ m = M
 cases X <;> first | rfl | skip
 cases H <;> first | rfl | skip
 cases M <;> first | rfl | skip
 simp only[slK,optK,intK,Option.getD_none,Option.getD_some,Int.toNat_zero,Nat.zero_mul,map_add_zero,ite_self,Nat.sub_zero,Int.le_refl,true_and,Option.isSome_some,imp_self]
theorem oper_wpIn {o : Oper} {a : Act} {w : World} {K : Value → World → Prop} {K' : Act → World → Prop} {Q : Exit → Act → World → Prop} (hnd : ∀ c, o.op ≠ .defer c) (h : runK P o a.eval w K) (hK : ∀ v w', K v w' → K' (a.put o.dst v) w') : o.wpIn (FW ro) m P a w K' Q := by
 refine ⟨fun f _ => trivial, ?_⟩
 rw[Oper.semAt_eq _ _ _ hnd]
 unfold runK at h
 generalize (execOp a.eval o).run P w = r at *
 cases r with
 | halt x w' => exact h.elim
 | ok x w' =>
  cases x <;> first | exact h.elim | skip
  case value v => exact hK _ _ h
  case skip => exact hK _ _ h
  case enter f args =>
   rw[Oper.uponIn_enter]
   refine ⟨(fun h => by cases h), ?_⟩
   simp only[callK,Array.toArray_toList] at h
   have h2 : CallsIn Fence.wide (m - 1) P f args w' _ := callsIn_wide.2 h
   refine (show CallsIn (FW ro) (m - 1) P f args w' _ from h2).mono ?_
   rintro e w'' ⟨v, rfl, hv⟩
   exact hK _ _ hv
theorem opsIn_sound {ops : Array Oper} {Q : Exit → Act → World → Prop} {dfs : List Deferred} {K : Env → World → Prop} (hQ : ∀ a w, a.tmps.size = n → a.defers = dfs → K (envOf a) w → Q .normal a w) :
  ∀ (L : List Oper) (L' : List O), strL P ops n L = some L' → ∀ (a : Act) (w : World), a.tmps.size = n → a.defers = dfs → opsW P L' K (envOf a) w → wpListIn (FW ro) m P ops Q L a w
 | [], L', hl, a, w, hs, hd, h => by
  simp only[strL,Option.some.injEq] at hl
  subst hl
  exact hQ a w hs hd h
 | o :: r, L', hl, a, w, hs, hd, h => by
  simp only[strL] at hl
  split at hl
  ·rename_i x t hx ht
   cases hl
   obtain ⟨hi, hdst, hlt, hg⟩ := strO_spec hx
   simp only[opsW,gK,← hg a] at h
   refine wpListIn_step fun K' hK' => ?_
   split at h
   ·rename_i hw
    rw[if_pos hw]
    have hnd : ∀ c, o.op ≠ .defer c := fun c hc => by
     rw[hi,hc] at h
     exact h
    refine oper_wpIn hnd (K := fun v w' => opsW P t K (updO (envOf a) x.dst v) w') (by rw[eval_env]; exact i_sound' hi h) (fun v w' hv => hK' _ _ ?_)
    refine opsIn_sound hQ r t ht _ _ (by rw[put_size]; exact hs) (by rw[put_defers]; exact hd) ?_
    rw[env_putO hs hlt,← hdst]; exact hv
   ·rename_i hw
    rw[if_neg hw]
    refine ⟨fun f _ => trivial, hK' _ _ ?_⟩
    refine opsIn_sound hQ r t ht _ _ (by rw[put_size]; exact hs) (by rw[put_defers]; exact hd) ?_
    rw[env_putO hs hlt,← hdst]; exact h
  ·cases hl
def plainC : Code → Bool
 | .skip | .ret | .exit _ => true
 | .seq a b => plainC a && plainC b
 | .cond _ a b => plainC a && plainC b
 | .block _ b => plainC b
 | .region _ _ draw => !draw
 | _ => false
theorem S_soundR {dn : List (Nat × Sc)} {dfs : List Deferred} : ∀ (c : Code) (s : S), plainC c = true → strS P n dn c = some s → ∀ (K : Exit → Env → World → Prop) (a : Act) (w : World), a.tmps.size = n → a.defers = dfs → s.W P K (envOf a) w → c.wpIn (FW ro) m P (post n dfs K) a w := by
 intro c
 induction c with
 | skip => intro s hp hs K a w ha hd h; cases hs; exact wpIn_skip ⟨ha, hd, h⟩
 | ret => intro s hp hs K a w ha hd h; cases hs; exact wpIn_ret ⟨ha, hd, h⟩
 | exit id => intro s hp hs K a w ha hd h; cases hs; exact wpIn_exit ⟨ha, hd, h⟩
 | seq x y ihx ihy =>
  intro s hp hs K a w ha hd h
  simp only[plainC,Bool.and_eq_true] at hp
  simp only[strS] at hs
  split at hs
  ·rename_i sx sy hx hy
   have h : sx.W P (seqK (sy.W P K) K) (envOf a) w := by split at hs <;> cases hs <;> exact h
   refine wpIn_seq (wpIn_mono (ihx sx hp.1 hx (seqK (sy.W P K) K) a w ha hd h) ?_)
   rintro e a' w' ⟨ha', hd', h'⟩
   cases e with
   | normal => exact ihy sy hp.2 hy K a' w' ha' hd' h'
   | exit id => exact ⟨ha', hd', h'⟩
   | goto l => exact ⟨ha', hd', h'⟩
   | ret => exact ⟨ha', hd', h'⟩
   | panic ch => exact ⟨ha', hd', h'⟩
   | outgrown => exact ⟨ha', hd', h'⟩
  ·cases hs
 | cond c x y ihx ihy =>
  intro s hp hs K a w ha hd h
  simp only[plainC,Bool.and_eq_true] at hp
  simp only[strS] at hs
  split at hs
  ·rename_i sx sy hx hy
   cases hs
   obtain ⟨t, ht, h⟩ := boolK_elim h
   refine wpIn_cond (t := t) (by rw[eval_env]; exact ht) ?_
   cases t with
   | true => exact ihx sx hp.1 hx K a w ha hd h
   | false => exact ihy sy hp.2 hy K a w ha hd h
  ·cases hs
 | block id b ih =>
  intro s hp hs K a w ha hd h
  simp only[strS,Option.map_eq_some_iff] at hs
  obtain ⟨sb, hb, rfl⟩ := hs
  refine wpIn_block (wpIn_mono (ih sb hp hb (blkK id K) a w ha hd h) ?_)
  rintro e a' w' ⟨ha', hd', h'⟩
  cases e with
  | exit j =>
   simp only[blkK] at h'
   simp only[Exit.inBlock]
   split at h' <;> rename_i hj
   ·rw[if_pos hj]; exact ⟨ha', hd', h'⟩
   ·rw[if_neg hj]; exact ⟨ha', hd', h'⟩
  | normal => exact ⟨ha', hd', h'⟩
  | goto l => exact ⟨ha', hd', h'⟩
  | ret => exact ⟨ha', hd', h'⟩
  | panic ch => exact ⟨ha', hd', h'⟩
  | outgrown => exact ⟨ha', hd', h'⟩
 | region id ops draw =>
  intro s hp hs K a w ha hd h
  simp only[strS] at hs
  split at hs
  ·cases hs
  ·rename_i L hl
   have hdr : draw = false := by simpa [plainC] using hp
   subst hdr
   simp only[Bool.false_eq_true,if_false,Option.some.injEq] at hs
   subst hs
   refine wpIn_region_list ?_
   exact opsIn_sound (dfs := dfs) (fun a w h1 h2 h3 => ⟨h1, h2, h3⟩) _ _ hl a w ha hd h
 | _ => intro s hp; cases hp
def rndK (l : Nat) (R : Ending → World → Prop) : Exit → Env → World → Prop
 | .normal, _, w => ∃ r, w.heap[l]? = some (.loop r) ∧ R (.returned (.bool true)) (w.putObj l (.loop { r with state := .ready, pending := none }))
 | .ret, _, w => ∃ r, w.heap[l]? = some (.loop r) ∧ R (.returned (.bool false)) (w.putObj l (.loop { r with state := .done, pending := some .ret }))
 | .exit id, _, w => ∃ r, w.heap[l]? = some (.loop r) ∧ R (.returned (.bool false)) (w.putObj l (.loop { r with state := .done, pending := some (.exit id) }))
 | _, _, _ => False
theorem round_eng {f : FuncId} {tmps : Array Value} {assign body : Code} {W : World} {R : Ending → World → Prop} {sa sb : S} (hpa : plainC assign = true) (hpb : plainC body = true) (hsa : strS P n [] assign = some sa) (hsb : strS P n [] body = some sb) (hsz : tmps.size = n)
  (h : sa.W P (fun e ρ w₁ => e = .normal ∧ ∃ r, w₁.heap[l]? = some (.loop r) ∧ r.state = .ready ∧ sb.W P (rndK l R) ρ (w₁.putObj l (.loop { r with state := .busy }))) (fun t => tmps.getD t undef) W) : RoundIn Fence.wide m P l f tmps assign body W R := by
 refine roundIn_of_wpIn trivial ?_
 refine wpIn_mono (S_soundR (ro := some l) (dfs := []) assign sa hpa hsa _ _ W hsz rfl h) ?_
 rintro e a₁ w₁ ⟨ha, hd, rfl, r, hr, hst, hb⟩
 refine ⟨_, run_beginRound hr hst, ?_⟩
 refine wpIn_mono (S_soundR (ro := some l) (dfs := []) body sb hpb hsb _ _ _ ha hd hb) ?_
 rintro e a₂ w₂ ⟨_, _, h2⟩
 cases e with
 | normal =>
  obtain ⟨r, hr, hR⟩ := h2
  exact ⟨_, _, run_endRound none hr, hR⟩
 | ret =>
  obtain ⟨r, hr, hR⟩ := h2
  exact ⟨_, _, run_endRound (some .ret) hr, hR⟩
 | exit id =>
  obtain ⟨r, hr, hR⟩ := h2
  exact ⟨_, _, run_endRound (some (.exit id)) hr, hR⟩
 | goto t => exact h2.elim
 | panic c => exact h2.elim
 | outgrown => exact h2.elim
def recOf (w : World) (fn : FuncId) (tmps : Array Value) (ps : Array Tmp) (assign body : Code) : Loop := { state := .ready, pending := none, fn := fn, tmps := tmps, params := ps, assign := assign, body := body, defers := w.heap.size }
theorem range_eng {g : Operand} {ps : Array Tmp} {assign body : Code} {Q : Exit → Act → World → Prop} {a : Act} {w : World} {gf : Nat} {lb : Array Value} (hg : a.eval g = .func (.func gf) #[] lb) (eg : ∀ args w, (callFunc gf args).run P w = .ok (.enter gf args) w)
  (h : ∀ fn, CallsIn Fence.wide (m - 1) P gf (#[.func (.yield (w.heap.size + 1)) #[] #[]] ++ lb) ((w.alloc (.deferred (some []))).alloc (.loop (recOf w fn a.tmps ps assign body))) fun e W => (∃ v, e = .returned v) ∧ ∃ r, W.heap[w.heap.size + 1]? = some (.loop r) ∧ r.state ≠ .busy ∧
   (match r.pending with
    | none => Q .normal { a with defers := { target := .collected w.heap.size, args := #[] } :: a.defers } (W.putObj (w.heap.size + 1) (.loop { r with state := .exhausted }))
    | some c => c.wpIn Fence.wide m P Q { a with defers := { target := .collected w.heap.size, args := #[] } :: a.defers } (W.putObj (w.heap.size + 1) (.loop { r with state := .exhausted })))) :
  (Code.rangeFunc g ps assign body).wpIn Fence.wide m P Q a w := by
 refine wpIn_rangeFunc fun fn _ => ?_
 have hlay := run_enterLoop_outer (P := P) (w := w) fn a.tmps ps assign body
 obtain ⟨W1, hW1⟩ : ∃ W1, (w.alloc (.deferred (some []))).alloc (.loop (recOf w fn a.tmps ps assign body)) = W1 := ⟨_, rfl⟩
 have h := h fn
 rw[hW1] at h
 refine ⟨w.heap.size + 1, [{ target := .collected w.heap.size, args := #[] }], W1, { target := .fn (.func gf) lb, args := #[.func (.yield (w.heap.size + 1)) #[] #[]] }, W1, gf, #[.func (.yield (w.heap.size + 1)) #[] #[]] ++ lb, W1, ?_, ?_, ?_, ?_, ?_, ?_⟩
 ·rw[← hW1]; exact hlay
 ·simp only[resolve,hg]
  simp[go_sem]
 ·exact fun f' _ => trivial
 ·simp[invoke,go_sem,eg]
 ·exact fun h => by cases h
 ·refine h.mono ?_
  rintro e W ⟨⟨v, rfl⟩, r, hr, hb, hj⟩
  exact ⟨r.pending, _, run_endLoop hr hb, hj⟩
theorem call_marks {f : FuncId} {fn : Func} {c : Code} {args : List Value} {w : World} {K : Value → World → Prop} (hf : P.funcs[f]? = some fn) (hb : fn.body = some c)
  (h : c.wpIn Fence.wide m P (bodyPostM Fence.wide m P fn fun e w' => ∃ v, e = .returned v ∧ K v w') { tmps := args.toArray ++ Array.replicate (fn.ntmps - args.toArray.size) undef, defers := [] } w) : callK P f args w K :=
 callsIn_wide.1 (callsIn_of_wp_marks hf hb trivial h)
theorem inv_seq {dn : List (Nat × Sc)} {c : Code} {x y : S} (h : strS P n dn c = some (.seq x y)) : ∃ a b, c = .seq a b ∧ strS P n dn a = some x ∧ strS P n dn b = some y := by
 cases c <;> simp only[strS] at h
 case seq a b =>
  split at h
  ·rename_i sx sy hx hy
   split at h <;> cases h
   exact ⟨a, b, rfl, hx, hy⟩
  ·cases h
 all_goals first | (cases h; done) | (split at h <;> first | (cases h; done) | (split at h <;> first | (cases h; done) | (split at h <;> first | (cases h; done) | (split at h <;> cases h)))) | (simp at h)
theorem inv_block {dn : List (Nat × Sc)} {c : Code} {i : Nat} {x : S} (h : strS P n dn c = some (.block i x)) : ∃ a, c = .block i a ∧ strS P n dn a = some x := by
 cases c <;> simp only[strS] at h
 case block j a =>
  simp only[Option.map_eq_some_iff] at h
  obtain ⟨b, hb, e⟩ := h
  cases e
  exact ⟨a, rfl, hb⟩
 all_goals first | (cases h; done) | (split at h <;> first | (cases h; done) | (split at h <;> first | (cases h; done) | (split at h <;> first | (cases h; done) | (split at h <;> cases h)))) | (simp at h)
theorem inv_loop {dn : List (Nat × Sc)} {c : Code} {x : S} (h : strS P n dn c = some (.loop x)) : ∃ a, c = .loop a ∧ strS P n dn a = some x := by
 cases c <;> simp only[strS] at h
 case loop a =>
  simp only[Option.map_eq_some_iff] at h
  obtain ⟨b, hb, e⟩ := h
  cases e
  exact ⟨a, rfl, hb⟩
 all_goals first | (cases h; done) | (split at h <;> first | (cases h; done) | (split at h <;> first | (cases h; done) | (split at h <;> first | (cases h; done) | (split at h <;> cases h)))) | (simp at h)
theorem eng_wide {dn : List (Nat × Sc)} {dfs : List Deferred} {c : Code} {s : S} (hs : strS P n dn c = some s) {K : Exit → Env → World → Prop} {a : Act} {w : World} (ha : a.tmps.size = n) (hd : a.defers = dfs) {Q : Exit → Act → World → Prop} (h : s.W P K (envOf a) w) (hQ : ∀ e a' w', post n dfs K e a' w' → Q e a' w') : c.wpIn Fence.wide m P Q a w :=
 wpIn_mono (wpIn_wide.2 (S_sound c s hs K a w ha hd h)) hQ
end
end Go.Proofs.YtcgplgpdcfocpaaGreatDoor.Eng
end
set_option linter.defProp false
namespace Go.Proofs.YtcgplgpdcfocpaaGreatDoor.Eng
def EZ := And.intro EO (And.intro EQ EM)
end Go.Proofs.YtcgplgpdcfocpaaGreatDoor.Eng
