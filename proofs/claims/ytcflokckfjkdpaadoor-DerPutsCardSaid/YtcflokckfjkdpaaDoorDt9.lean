/- Object identifiers: a text's numbers, walked. -/
import Derived.Test.YtcflokckfjkdpaaDoorDt8
import Derived.Laws.RangeString
set_option linter.unusedVariables false
set_option linter.unusedSimpArgs false
namespace Go.Proofs.YtcflokckfjkdpaaDoor.Der
open Go Go.RowKit Go.Proofs Go.Proofs.YtcflokckfjkdpaaDoor.Eng Go.Proofs.YtcflokckfjkdpaaDoor.Code
set_option maxRecDepth 100000
attribute [local irreducible] callK S.W opsW scrW scrT

def ints (u : List UInt8) : List Int := u.map fun b => (b.toNat : Int)
theorem ints_len (u : List UInt8) : (ints u).length = u.length := by simp [ints]
theorem ints_at {u : List UInt8} {i : Nat} (h : i < u.length) : at' (ints u) (i : Int) = ((u[i]).toNat : Int) := by
  rw [atN, List.getD_eq_getElem?_getD, ints, List.getElem?_map, List.getElem?_eq_getElem h]; rfl
theorem ints_byte (u : List UInt8) : ByteL (ints u) := ByteL.of fun x hx => by
  unfold ints at hx
  rw [List.mem_map] at hx
  obtain ⟨b, _, rfl⟩ := hx
  have := b.toNat_lt
  omega
theorem S_get {u : List UInt8} {i : Nat} (h : i < (S u).size) : (S u)[i]'h = u[i]'(by rwa [S_size] at h) := by
  simp [S, ByteArray.getElem_eq_getElem_data]
theorem dec_low {u : List UInt8} {i : Nat} (h : i < u.length) (ha : (u[i]).toNat < 128) : Utf8.decode (S u) i = ((u[i]).toNat, 1) := by
  have h' : i < (S u).size := by rwa [S_size]
  rw [decode_ascii (S u) i h' (by rw [S_get]; exact ha), S_get]
theorem dec_high {u : List UInt8} {i : Nat} (h : i < u.length) (ha : 128 ≤ (u[i]).toNat) : 128 ≤ (Utf8.decode (S u) i).1 := by
  have h' : i < (S u).size := by rwa [S_size]
  have e : (S u).get! (i + 0) = u[i] := by
    refine Eq.trans ?_ (S_get h')
    show (S u).get! i = _
    simp [ByteArray.get!, getElem!_pos, h']
    rfl
  unfold Utf8.decode
  simp only [e, show ¬ (u[i]).toNat < 128 by omega, if_false]
  split
  · split
    · assumption
    · decide
  · split
    · split
      · rename_i hh
        simp at hh
        simp only
        omega
      · decide
    · split
      · split
        · rename_i hh
          simp at hh
          simp only
          omega
        · decide
      · decide
theorem fr_it (w : World) (ib : Nat) (o : Obj) : Fr w { w with heap := w.heap.setIfInBounds ib o } (fun b => b = ib) :=
  ⟨⟨rfl, rfl, rfl, by simp, fun k hk => by omega⟩, fun b _ hb => by
    show (w.heap.setIfInBounds ib o)[b]? = w.heap[b]?
    rw [Array.getElem?_setIfInBounds_ne (fun e => hb e.symm)]⟩
theorem nxs_k {w : World} {ib pos c k : Nat} {s : ByteArray} {K : Value → World → Prop} {t : Tok K} (h : w.heap[ib]? = some (.stringIter s pos)) (hp : pos < s.size) (hd : Utf8.decode s pos = (c, k))
    (hK : ∀ w', Fr w w' (fun b => b = ib) → w'.heap[ib]? = some (.stringIter s (pos + k)) → K (.tuple #[.bool true, .int .i64 pos, .int .i32 c]) w') : nxsT ⟨ib, 0, none⟩ w K t := by
  refine ⟨rfl, s, pos, h, fun _ => ?_, fun h' => by omega⟩
  rw [hd]
  refine hK _ (fr_it w ib _) ?_
  have hib := (Array.getElem?_eq_some_iff.1 h).1
  show (w.heap.setIfInBounds ib _)[ib]? = _
  rw [Array.getElem?_setIfInBounds_self_of_lt hib]
theorem nxs_end {w : World} {ib pos : Nat} {s : ByteArray} {K : Value → World → Prop} {t : Tok K} (h : w.heap[ib]? = some (.stringIter s pos)) (hp : s.size ≤ pos)
    (hK : K (.tuple #[.bool false]) w) : nxsT ⟨ib, 0, none⟩ w K t := ⟨rfl, s, pos, h, fun h' => by omega, fun _ => hK⟩
theorem it_heap (w : World) (o : Obj) : (w.alloc o).heap = w.heap.push o := rfl
theorem it_fr (w : World) (o : Obj) : Fr w (w.alloc o) nob := by
  refine ⟨⟨rfl, rfl, rfl, ?_, fun k hk => by omega⟩, fun b hb _ => ?_⟩
  · rw [it_heap, Array.size_push]; omega
  · rw [it_heap, Array.getElem?_push_lt hb, Array.getElem?_eq_getElem hb]
theorem it_lt (w : World) (o : Obj) : w.heap.size < (w.alloc o).heap.size := by rw [it_heap, Array.size_push]; omega
theorem rgs_k {w : World} {s : ByteArray} {K : Value → World → Prop} {t : Tok K} (hK : ∀ w', Fr w w' nob → w'.heap[w.heap.size]? = some (.stringIter s 0) → w.heap.size < w'.heap.size → K (.pointer (some ⟨w.heap.size, 0, none⟩)) w') : rgsT s w K t :=
  hK _ (it_fr w _) (World.iter_heap w s 0) (it_lt w _)
theorem pos_cellsK {k : IntKind} {w : World} {A : Option Addr} {l : List Int} (hr : Rd w A (nums k l)) (h0 : 0 < l.length) : ∃ ad, A = some ad ∧ ∀ i : Nat, i < l.length → w.cell? (ad.add i) = some (.int k (at' l (i : Int))) := by
  obtain ⟨ad, e, _, hcl⟩ := hr.get (by rw [nums_length]; omega)
  exact ⟨ad, e, fun i hi => hcl.numN hi⟩
def prb (v : Value) (b : Bool) : Value := .tuple #[v, .bool b]
set_option maxHeartbeats 2000000 in
theorem arcs_vw {w : World} {u : List UInt8} (hm : u.length ≤ 1073741824) (K : Value → World → Prop)
    (hK : ∀ v' w', Gw .u64 w w' v' ((arcsR (ints u)).getD []) → K (prb v' (arcsR (ints u)).isSome) w') : callK Tryd.prog 49 [.string (S u)] w K := by
  refine call_of Tryd.func49 Code.h49 (by simp [Code.c49]) ?_
  have htl : (u ++ [46]).length = u.length + 1 := by simp
  have hti : ints (u ++ [46]) = ints u ++ [46] := by simp [ints]
  unfold arcsR at hK
  rw [← hti] at hK
  simp (disch := omega) only [wu64, wu32, wu8, fdiv_nn, EO, ↓EP, EQ, EM, ↓reduceIte, Int.reduceAdd, Int.reduceEq, Int.reduceLE, Int.reduceLT, Int.reduceMul, Int.reduceNeg, Int.reducePow, Int.reduceSub, Int.reduceToNat, Nat.reduceAdd, Nat.reduceEqDiff, Nat.reduceLT, Nat.reduceLeDiff, Nat.reduceMul, reduceCtorEq, Code.c49, b_sadd, ← S_dot, S_append, S_size, List.length_cons, List.length_nil]
  refine rgs_k fun w1 f1 hit hlt => ?_
  generalize hib : w.heap.size = ib at hit hlt
  generalize hT : u ++ [46] = T at hK htl hit
  simp (disch := omega) only [wu64, wu32, wu8, fdiv_nn, EO, ↓EP, EQ, EM, ↓reduceIte, Int.reduceAdd, Int.reduceEq, Int.reduceLE, Int.reduceLT, Int.reduceMul, Int.reduceNeg, Int.reducePow, Int.reduceSub, Int.reduceToNat, Nat.reduceAdd, Nat.reduceEqDiff, Nat.reduceLT, Nat.reduceLeDiff, Nat.reduceMul, reduceCtorEq]
  refine loop_inv (fun t ρ w2 => ∃ (pos : Nat) (l : List Int) (v : Int) (n : Nat) (X : Value), w2.heap[ib]? = some (.stringIter (S T) pos) ∧ ρ 4 = X ∧ ρ 5 = .int .u64 v ∧ ρ 6 = .int .i64 n ∧ pos ≤ T.length ∧ t = T.length - pos ∧ 0 ≤ v ∧ v ≤ 1099511627776 ∧ n ≤ 20 ∧ l.length ≤ pos ∧ Gw .u64 w w2 X l ∧ (∀ b, blkOf X = some b → b ≠ ib) ∧ (∀ x ∈ l, 0 ≤ x ∧ x ≤ 1099511627776) ∧ arcsGo ((ints T).drop pos) l v n = arcsGo (ints T) [] 0 0) T.length ⟨0, [], 0, 0, _, hit, by simp (disch := omega) only [wu64, wu32, wu8, fdiv_nn, EO, ↓EP, EQ, EM, ↓reduceIte, Int.reduceAdd, Int.reduceEq, Int.reduceLE, Int.reduceLT, Int.reduceMul, Int.reduceNeg, Int.reducePow, Int.reduceSub, Int.reduceToNat, Nat.reduceAdd, Nat.reduceEqDiff, Nat.reduceLT, Nat.reduceLeDiff, Nat.reduceMul, reduceCtorEq], by simp (disch := omega) only [wu64, wu32, wu8, fdiv_nn, EO, ↓EP, EQ, EM, ↓reduceIte, Int.reduceAdd, Int.reduceEq, Int.reduceLE, Int.reduceLT, Int.reduceMul, Int.reduceNeg, Int.reducePow, Int.reduceSub, Int.reduceToNat, Nat.reduceAdd, Nat.reduceEqDiff, Nat.reduceLT, Nat.reduceLeDiff, Nat.reduceMul, reduceCtorEq], by simp (disch := omega) only [wu64, wu32, wu8, fdiv_nn, EO, ↓EP, EQ, EM, ↓reduceIte, Int.reduceAdd, Int.reduceEq, Int.reduceLE, Int.reduceLT, Int.reduceMul, Int.reduceNeg, Int.reducePow, Int.reduceSub, Int.reduceToNat, Nat.reduceAdd, Nat.reduceEqDiff, Nat.reduceLT, Nat.reduceLeDiff, Nat.reduceMul, reduceCtorEq], by omega, by omega, by omega, by omega, by omega, by simp, (Gw.nil .u64 w).step f1, fun b e => (by cases e), by simp, rfl⟩ ?_
  rintro t ρ w2 hf ⟨pos, l, v, n, X, hit2, h4, h5, h6, hp, rfl, hv, hv', hn, hll, g, hX, hlm, hgo⟩ N hN
  have r11 : ρ 11 = .pointer (some ⟨ib, 0, none⟩) := by rw [hf 11 rfl]; simp (disch := omega) only [wu64, wu32, wu8, fdiv_nn, EO, ↓EP, EQ, EM, ↓reduceIte, Int.reduceAdd, Int.reduceEq, Int.reduceLE, Int.reduceLT, Int.reduceMul, Int.reduceNeg, Int.reducePow, Int.reduceSub, Int.reduceToNat, Nat.reduceAdd, Nat.reduceEqDiff, Nat.reduceLT, Nat.reduceLeDiff, Nat.reduceMul, reduceCtorEq]
  clear hf
  have hlt2 : ib < w2.heap.size := (Array.getElem?_eq_some_iff.1 hit2).1
  by_cases hpl : pos < T.length
  · have htp := ints_at hpl
    rw [drop_at (show pos < (ints T).length by rw [ints_len]; exact hpl), arcsGo, htp] at hgo
    have hcb := (T[pos]).toNat_lt
    by_cases hc : (T[pos]).toNat < 128
    · have hd := dec_low hpl hc
      generalize (T[pos]).toNat = c at *
      simp (disch := omega) only [wu64, wu32, wu8, fdiv_nn, EO, ↓EP, EQ, EM, ↓reduceIte, Int.reduceAdd, Int.reduceEq, Int.reduceLE, Int.reduceLT, Int.reduceMul, Int.reduceNeg, Int.reducePow, Int.reduceSub, Int.reduceToNat, Nat.reduceAdd, Nat.reduceEqDiff, Nat.reduceLT, Nat.reduceLeDiff, Nat.reduceMul, reduceCtorEq, r11]
      refine nxs_k hit2 (by rw [S_size]; exact hpl) hd fun w3 f3 hit3 => ?_
      have g3 := g.other f3 hX (fun b hb => by omega)
      by_cases h46 : c = 46 ∧ 0 < n
      · rw [if_pos ⟨by omega, h46.2⟩] at hgo
        have h6' : (0 : Int) < (n : Int) := by omega
        rw [h46.1]
        simp (disch := omega) only [wu64, wu32, wu8, fdiv_nn, EO, ↓EP, EQ, EM, ↓reduceIte, Int.reduceAdd, Int.reduceEq, Int.reduceLE, Int.reduceLT, Int.reduceMul, Int.reduceNeg, Int.reducePow, Int.reduceSub, Int.reduceToNat, Nat.reduceAdd, Nat.reduceEqDiff, Nat.reduceLT, Nat.reduceLeDiff, Nat.reduceMul, reduceCtorEq, W_join, h4, h5, h6]
        refine bsl1 fun w4 n4 => ?_
        have g4 := g3.new n4
        simp (disch := omega) only [wu64, wu32, wu8, fdiv_nn, EO, ↓EP, EQ, EM, ↓reduceIte, Int.reduceAdd, Int.reduceEq, Int.reduceLE, Int.reduceLT, Int.reduceMul, Int.reduceNeg, Int.reducePow, Int.reduceSub, Int.reduceToNat, Nat.reduceAdd, Nat.reduceEqDiff, Nat.reduceLT, Nat.reduceLeDiff, Nat.reduceMul, reduceCtorEq, W_join, h4, h5, h6]
        refine app_num g4.sl rfl n4.rdv (by simp; omega) (by omega) fun v5 w5 a5 => ?_
        have g5 := g4.apd a5
        have hit5 : w5.heap[ib]? = some (.stringIter (S T) (pos + 1)) := by
          have b3 : ib < w3.heap.size := Nat.lt_of_lt_of_le hlt2 f3.size
          rw [a5.fr.block ib (Nat.lt_of_lt_of_le b3 (n4.fr nob).size) (fun e => hX ib e rfl), (n4.fr nob).block ib b3 (fun e => e)]
          exact hit3
        simp (disch := omega) only [wu64, wu32, wu8, fdiv_nn, EO, ↓EP, EQ, EM, ↓reduceIte, Int.reduceAdd, Int.reduceEq, Int.reduceLE, Int.reduceLT, Int.reduceMul, Int.reduceNeg, Int.reducePow, Int.reduceSub, Int.reduceToNat, Nat.reduceAdd, Nat.reduceEqDiff, Nat.reduceLT, Nat.reduceLeDiff, Nat.reduceMul, reduceCtorEq, W_join, h4, h5, h6]
        refine hN (T.length - (pos + 1)) _ _ (by omega) ⟨pos + 1, l ++ [v], 0, 0, v5, hit5, by simp (disch := omega) only [wu64, wu32, wu8, fdiv_nn, EO, ↓EP, EQ, EM, ↓reduceIte, Int.reduceAdd, Int.reduceEq, Int.reduceLE, Int.reduceLT, Int.reduceMul, Int.reduceNeg, Int.reducePow, Int.reduceSub, Int.reduceToNat, Nat.reduceAdd, Nat.reduceEqDiff, Nat.reduceLT, Nat.reduceLeDiff, Nat.reduceMul, reduceCtorEq], by simp (disch := omega) only [wu64, wu32, wu8, fdiv_nn, EO, ↓EP, EQ, EM, ↓reduceIte, Int.reduceAdd, Int.reduceEq, Int.reduceLE, Int.reduceLT, Int.reduceMul, Int.reduceNeg, Int.reducePow, Int.reduceSub, Int.reduceToNat, Nat.reduceAdd, Nat.reduceEqDiff, Nat.reduceLT, Nat.reduceLeDiff, Nat.reduceMul, reduceCtorEq], by simp (disch := omega) only [wu64, wu32, wu8, fdiv_nn, EO, ↓EP, EQ, EM, ↓reduceIte, Int.reduceAdd, Int.reduceEq, Int.reduceLE, Int.reduceLT, Int.reduceMul, Int.reduceNeg, Int.reducePow, Int.reduceSub, Int.reduceToNat, Nat.reduceAdd, Nat.reduceEqDiff, Nat.reduceLT, Nat.reduceLeDiff, Nat.reduceMul, reduceCtorEq], by omega, rfl, by omega, by omega, by omega, by simp; omega, g5, fun b e => ?_, ?_, hgo⟩
        · rcases a5.where_ with hw | hw
          · exact hX b (hw ▸ e)
          · have := hw b e
            have := (n4.fr nob).size
            have := f3.size
            omega
        · intro x hx
          rw [List.mem_append] at hx
          rcases hx with hx | hx
          · exact hlm x hx
          · simp at hx; omega
      · rw [if_neg (fun h => h46 ⟨by omega, h.2⟩)] at hgo
        by_cases hbad : (c : Int) < 48 ∨ 57 < (c : Int) ∨ (n = 1 ∧ v = 0)
        · rw [if_pos hbad] at hgo
          rw [← hgo] at hK
          have fin := hK _ w3 ((Gw.nil .u64 w).step g3.fr)
          by_cases hc46 : c = 46
          · have hn0 : n = 0 := by
              apply Nat.eq_zero_of_not_pos
              exact fun h => h46 ⟨hc46, h⟩
            subst hn0
            rw [hc46]
            simp (disch := omega) only [wu64, wu32, wu8, fdiv_nn, EO, ↓EP, EQ, EM, ↓reduceIte, Int.reduceAdd, Int.reduceEq, Int.reduceLE, Int.reduceLT, Int.reduceMul, Int.reduceNeg, Int.reducePow, Int.reduceSub, Int.reduceToNat, Nat.reduceAdd, Nat.reduceEqDiff, Nat.reduceLT, Nat.reduceLeDiff, Nat.reduceMul, reduceCtorEq, W_join, h4, h5, h6, Int.natCast_zero]
            exact fin
          · have hc46' : ((c : Int) = 46) = False := eq_false (by omega)
            by_cases h1 : (c : Int) < 48
            · simp (disch := omega) only [wu64, wu32, wu8, fdiv_nn, EO, ↓EP, EQ, EM, ↓reduceIte, Int.reduceAdd, Int.reduceEq, Int.reduceLE, Int.reduceLT, Int.reduceMul, Int.reduceNeg, Int.reducePow, Int.reduceSub, Int.reduceToNat, Nat.reduceAdd, Nat.reduceEqDiff, Nat.reduceLT, Nat.reduceLeDiff, Nat.reduceMul, reduceCtorEq, W_join, h4, h5, h6, hc46']
              exact fin
            · by_cases h2 : 57 < (c : Int)
              · simp (disch := omega) only [wu64, wu32, wu8, fdiv_nn, EO, ↓EP, EQ, EM, ↓reduceIte, Int.reduceAdd, Int.reduceEq, Int.reduceLE, Int.reduceLT, Int.reduceMul, Int.reduceNeg, Int.reducePow, Int.reduceSub, Int.reduceToNat, Nat.reduceAdd, Nat.reduceEqDiff, Nat.reduceLT, Nat.reduceLeDiff, Nat.reduceMul, reduceCtorEq, W_join, h4, h5, h6, hc46']
                exact fin
              · have h3 : n = 1 ∧ v = 0 := by omega
                rw [h3.1] at h6
                rw [h3.2] at h5
                simp (disch := omega) only [wu64, wu32, wu8, fdiv_nn, EO, ↓EP, EQ, EM, ↓reduceIte, Int.reduceAdd, Int.reduceEq, Int.reduceLE, Int.reduceLT, Int.reduceMul, Int.reduceNeg, Int.reducePow, Int.reduceSub, Int.reduceToNat, Nat.reduceAdd, Nat.reduceEqDiff, Nat.reduceLT, Nat.reduceLeDiff, Nat.reduceMul, reduceCtorEq, W_join, h4, h5, h6, hc46', Int.natCast_one]
                exact fin
        · rw [if_neg hbad] at hgo
          have hc46' : ((c : Int) = 46) = False := eq_false (by omega)
          have hw1 : IntKind.i32.wrap ((c : Int) - 48) = (c : Int) - 48 := by
            unfold IntKind.wrap IntKind.bits IntKind.signed
            simp only [Bool.true_and, decide_eq_true_eq]
            split <;> omega
          have hw2 : IntKind.u64.wrap ((c : Int) - 48) = (c : Int) - 48 := wu64 (by omega) (by omega)
          have hst : (if 1099511627776 < 10 * v + ((c : Int) - 48) then (1099511627776 : Int) else 10 * v + ((c : Int) - 48)) = satA (10 * v + ((c : Int) - 48)) := rfl
          have sb := satA_bd (v := 10 * v + ((c : Int) - 48)) (by omega)
          have hmn : (if 20 < (n : Int) + 1 then (20 : Int) else (n : Int) + 1) = ((min (n + 1) 20 : Nat) : Int) := by split <;> omega
          by_cases h1 : n = 1
          · have hv0 : (v = 0) = False := eq_false (fun h => hbad (.inr (.inr ⟨h1, h⟩)))
            rw [h1] at h6
            subst h1
            simp (disch := omega) only [wu64, wu32, wu8, fdiv_nn, EO, ↓EP, EQ, EM, ↓reduceIte, Int.reduceAdd, Int.reduceEq, Int.reduceLE, Int.reduceLT, Int.reduceMul, Int.reduceNeg, Int.reducePow, Int.reduceSub, Int.reduceToNat, Nat.reduceAdd, Nat.reduceEqDiff, Nat.reduceLT, Nat.reduceLeDiff, Nat.reduceMul, reduceCtorEq, W_join, h4, h5, h6, hc46', hw1, hw2, hv0, Int.natCast_one]
            exact hN (T.length - (pos + 1)) _ _ (by omega) ⟨pos + 1, l, _, _, X, hit3, by simp (disch := omega) only [wu64, wu32, wu8, fdiv_nn, EO, ↓EP, EQ, EM, ↓reduceIte, Int.reduceAdd, Int.reduceEq, Int.reduceLE, Int.reduceLT, Int.reduceMul, Int.reduceNeg, Int.reducePow, Int.reduceSub, Int.reduceToNat, Nat.reduceAdd, Nat.reduceEqDiff, Nat.reduceLT, Nat.reduceLeDiff, Nat.reduceMul, reduceCtorEq, h4], by simp (disch := omega) only [wu64, wu32, wu8, fdiv_nn, EO, ↓EP, EQ, EM, ↓reduceIte, Int.reduceAdd, Int.reduceEq, Int.reduceLE, Int.reduceLT, Int.reduceMul, Int.reduceNeg, Int.reducePow, Int.reduceSub, Int.reduceToNat, Nat.reduceAdd, Nat.reduceEqDiff, Nat.reduceLT, Nat.reduceLeDiff, Nat.reduceMul, reduceCtorEq, hw1, hw2, hst], by simp (disch := omega) only [wu64, wu32, wu8, fdiv_nn, EO, ↓EP, EQ, EM, ↓reduceIte, Int.reduceAdd, Int.reduceEq, Int.reduceLE, Int.reduceLT, Int.reduceMul, Int.reduceNeg, Int.reducePow, Int.reduceSub, Int.reduceToNat, Nat.reduceAdd, Nat.reduceEqDiff, Nat.reduceLT, Nat.reduceLeDiff, Nat.reduceMul, reduceCtorEq], by omega, rfl, sb.1, sb.2, by omega, by omega, g3, hX, hlm, hgo⟩
          · have h1' : ((n : Int) = 1) = False := eq_false (by omega)
            simp (disch := omega) only [wu64, wu32, wu8, fdiv_nn, EO, ↓EP, EQ, EM, ↓reduceIte, Int.reduceAdd, Int.reduceEq, Int.reduceLE, Int.reduceLT, Int.reduceMul, Int.reduceNeg, Int.reducePow, Int.reduceSub, Int.reduceToNat, Nat.reduceAdd, Nat.reduceEqDiff, Nat.reduceLT, Nat.reduceLeDiff, Nat.reduceMul, reduceCtorEq, W_join, h4, h5, h6, hc46', hw1, hw2, h1']
            exact hN (T.length - (pos + 1)) _ _ (by omega) ⟨pos + 1, l, _, _, X, hit3, by simp (disch := omega) only [wu64, wu32, wu8, fdiv_nn, EO, ↓EP, EQ, EM, ↓reduceIte, Int.reduceAdd, Int.reduceEq, Int.reduceLE, Int.reduceLT, Int.reduceMul, Int.reduceNeg, Int.reducePow, Int.reduceSub, Int.reduceToNat, Nat.reduceAdd, Nat.reduceEqDiff, Nat.reduceLT, Nat.reduceLeDiff, Nat.reduceMul, reduceCtorEq, h4], by simp (disch := omega) only [wu64, wu32, wu8, fdiv_nn, EO, ↓EP, EQ, EM, ↓reduceIte, Int.reduceAdd, Int.reduceEq, Int.reduceLE, Int.reduceLT, Int.reduceMul, Int.reduceNeg, Int.reducePow, Int.reduceSub, Int.reduceToNat, Nat.reduceAdd, Nat.reduceEqDiff, Nat.reduceLT, Nat.reduceLeDiff, Nat.reduceMul, reduceCtorEq, hw1, hw2, hst], by simp (disch := omega) only [wu64, wu32, wu8, fdiv_nn, EO, ↓EP, EQ, EM, ↓reduceIte, Int.reduceAdd, Int.reduceEq, Int.reduceLE, Int.reduceLT, Int.reduceMul, Int.reduceNeg, Int.reducePow, Int.reduceSub, Int.reduceToNat, Nat.reduceAdd, Nat.reduceEqDiff, Nat.reduceLT, Nat.reduceLeDiff, Nat.reduceMul, reduceCtorEq, hmn], by omega, rfl, sb.1, sb.2, by omega, by omega, g3, hX, hlm, hgo⟩
    · have hh := dec_high hpl (by omega)
      rw [if_neg (fun h => by omega), if_pos (.inr (.inl (by omega)))] at hgo
      rw [← hgo] at hK
      obtain ⟨C, k, hd⟩ : ∃ C k, Utf8.decode (S T) pos = (C, k) := ⟨_, _, rfl⟩
      rw [hd] at hh
      simp only at hh
      simp (disch := omega) only [wu64, wu32, wu8, fdiv_nn, EO, ↓EP, EQ, EM, ↓reduceIte, Int.reduceAdd, Int.reduceEq, Int.reduceLE, Int.reduceLT, Int.reduceMul, Int.reduceNeg, Int.reducePow, Int.reduceSub, Int.reduceToNat, Nat.reduceAdd, Nat.reduceEqDiff, Nat.reduceLT, Nat.reduceLeDiff, Nat.reduceMul, reduceCtorEq, r11]
      refine nxs_k hit2 (by rw [S_size]; exact hpl) hd fun w3 f3 hit3 => ?_
      have g3 := g.other f3 hX (fun b hb => by omega)
      have fin := hK _ w3 ((Gw.nil .u64 w).step g3.fr)
      have hc46' : ((C : Int) = 46) = False := eq_false (by omega)
      simp (disch := omega) only [wu64, wu32, wu8, fdiv_nn, EO, ↓EP, EQ, EM, ↓reduceIte, Int.reduceAdd, Int.reduceEq, Int.reduceLE, Int.reduceLT, Int.reduceMul, Int.reduceNeg, Int.reducePow, Int.reduceSub, Int.reduceToNat, Nat.reduceAdd, Nat.reduceEqDiff, Nat.reduceLT, Nat.reduceLeDiff, Nat.reduceMul, reduceCtorEq, W_join, h4, h5, h6, hc46']
      exact fin
  · have hpe : pos = T.length := by omega
    rw [hpe, show T.length = (ints T).length by rw [ints_len], List.drop_length, arcsGo] at hgo
    rw [← hgo] at hK
    simp only at hK
    clear hN hgo
    simp (disch := omega) only [wu64, wu32, wu8, fdiv_nn, EO, ↓EP, EQ, EM, ↓reduceIte, Int.reduceAdd, Int.reduceEq, Int.reduceLE, Int.reduceLT, Int.reduceMul, Int.reduceNeg, Int.reducePow, Int.reduceSub, Int.reduceToNat, Nat.reduceAdd, Nat.reduceEqDiff, Nat.reduceLT, Nat.reduceLeDiff, Nat.reduceMul, reduceCtorEq, r11]
    refine nxs_end hit2 (by rw [S_size]; omega) ?_
    have nil2 := (Gw.nil .u64 w).step g.fr
    obtain ⟨XA, xc, rfl, hxc, hXr⟩ := readn g.sl rfl
    by_cases hl2 : l.length < 2
    · rw [if_pos (.inl hl2)] at hK
      simp (disch := omega) only [wu64, wu32, wu8, fdiv_nn, EO, ↓EP, EQ, EM, ↓reduceIte, Int.reduceAdd, Int.reduceEq, Int.reduceLE, Int.reduceLT, Int.reduceMul, Int.reduceNeg, Int.reducePow, Int.reduceSub, Int.reduceToNat, Nat.reduceAdd, Nat.reduceEqDiff, Nat.reduceLT, Nat.reduceLeDiff, Nat.reduceMul, reduceCtorEq, W_join, h4]
      exact hK _ w2 nil2
    obtain ⟨xa, rfl, cell⟩ := pos_cellsK hXr (by omega)
    have c0 := cell 0 (by omega)
    have c1 := cell 1 (by omega)
    rw [show ((0 : Nat) : Int) = 0 by rfl] at c0
    rw [show ((1 : Nat) : Int) = 1 by rfl] at c1
    by_cases h2 : 2 < at' l 0
    · rw [if_pos (.inr (.inl h2))] at hK
      simp (disch := omega) only [wu64, wu32, wu8, fdiv_nn, EO, ↓EP, EQ, EM, ↓reduceIte, Int.reduceAdd, Int.reduceEq, Int.reduceLE, Int.reduceLT, Int.reduceMul, Int.reduceNeg, Int.reducePow, Int.reduceSub, Int.reduceToNat, Nat.reduceAdd, Nat.reduceEqDiff, Nat.reduceLT, Nat.reduceLeDiff, Nat.reduceMul, reduceCtorEq, W_join, h4, c0, c1]
      exact hK _ w2 nil2
    by_cases h3 : at' l 0 < 2
    · by_cases h40 : 40 ≤ at' l 1
      · rw [if_pos (.inr (.inr ⟨h3, h40⟩))] at hK
        simp (disch := omega) only [wu64, wu32, wu8, fdiv_nn, EO, ↓EP, EQ, EM, ↓reduceIte, Int.reduceAdd, Int.reduceEq, Int.reduceLE, Int.reduceLT, Int.reduceMul, Int.reduceNeg, Int.reducePow, Int.reduceSub, Int.reduceToNat, Nat.reduceAdd, Nat.reduceEqDiff, Nat.reduceLT, Nat.reduceLeDiff, Nat.reduceMul, reduceCtorEq, W_join, h4, c0, c1]
        exact hK _ w2 nil2
      · rw [if_neg (fun h => by rcases h with h | h | h; exact hl2 h; exact h2 h; exact h40 h.2)] at hK
        simp (disch := omega) only [wu64, wu32, wu8, fdiv_nn, EO, ↓EP, EQ, EM, ↓reduceIte, Int.reduceAdd, Int.reduceEq, Int.reduceLE, Int.reduceLT, Int.reduceMul, Int.reduceNeg, Int.reducePow, Int.reduceSub, Int.reduceToNat, Nat.reduceAdd, Nat.reduceEqDiff, Nat.reduceLT, Nat.reduceLeDiff, Nat.reduceMul, reduceCtorEq, W_join, h4, c0, c1]
        exact hK _ w2 g
    · rw [if_neg (fun h => by rcases h with h | h | h; exact hl2 h; exact h2 h; exact h3 h.1)] at hK
      simp (disch := omega) only [wu64, wu32, wu8, fdiv_nn, EO, ↓EP, EQ, EM, ↓reduceIte, Int.reduceAdd, Int.reduceEq, Int.reduceLE, Int.reduceLT, Int.reduceMul, Int.reduceNeg, Int.reducePow, Int.reduceSub, Int.reduceToNat, Nat.reduceAdd, Nat.reduceEqDiff, Nat.reduceLT, Nat.reduceLeDiff, Nat.reduceMul, reduceCtorEq, W_join, h4, c0, c1]
      exact hK _ w2 g
end Go.Proofs.YtcflokckfjkdpaaDoor.Der
