/- Rows of elements: bytes that are split, walked. -/
import Derived.Test.YtcflokckfjkdpaaDoorDt2
set_option linter.unusedVariables false
set_option linter.unusedSimpArgs false
namespace Go.Proofs.YtcflokckfjkdpaaDoor.Der
open Go Go.RowKit Go.Proofs Go.Proofs.YtcflokckfjkdpaaDoor.Eng Go.Proofs.YtcflokckfjkdpaaDoor.Code
set_option maxRecDepth 100000
attribute [local irreducible] callK S.W opsW scrW scrT

theorem tagGo_ok : ∀ (l : List Int) (f : Bool) (n : Int) (i : Nat), (tagGo l f n i).2.2.1 = 0 → i < (tagGo l f n i).2.1 ∧ (tagGo l f n i).2.1 ≤ i + l.length
  | [], f, n, i, h => by simp [tagGo] at h
  | x :: r, f, n, i, h => by
    rw [tagGo] at h ⊢
    split at h
    · simp at h
    · rename_i h1
      rw [if_neg h1]
      split at h
      · rename_i h2
        rw [if_pos h2]
        simp
      · rename_i h2
        rw [if_neg h2]
        have := tagGo_ok r false _ (i + 1) h
        simp only [List.length_cons]
        omega
theorem tag_ok {b : List Int} {p : Nat} (hp : p < b.length) (h : (tagR b p).2.2.1 = 0) : p < (tagR b p).2.1 ∧ (tagR b p).2.1 ≤ b.length := by
  unfold tagR at h ⊢
  split at h
  · rename_i h1
    rw [if_pos h1]
    have := tagGo_ok _ _ _ _ h
    simp at this
    omega
  · rename_i h1
    rw [if_neg h1]
    split at h
    · simp at h
    · rename_i h2
      rw [if_neg h2]
      simp; omega
theorem len_ok {b : List Int} {i : Nat} (hb : ByteL b) (h : (lenR b i).2.2.1 = 0) : i < (lenR b i).2.1 ∧ 0 ≤ (lenR b i).1 ∧ (lenR b i).2.1 + (lenR b i).1.toNat ≤ b.length := by
  unfold lenR at h ⊢
  have bi := hb i
  split at h
  · simp at h
  · rename_i h1
    rw [if_neg h1]
    split at h
    · rename_i h2
      rw [if_pos h2]
      split at h
      · simp at h
      · rename_i h3
        rw [if_neg h3]
        simp only
        omega
    · rename_i h2
      rw [if_neg h2]
      split at h
      · simp at h
      · rename_i h3
        rw [if_neg h3]
        split at h
        · simp at h
        · rename_i h4
          rw [if_neg h4]
          split at h
          · simp at h
          · rename_i h5
            rw [if_neg h5]
            split at h
            · simp at h
            · rename_i h6
              rw [if_neg h6]
              have hf := fold_bd (l := (b.drop (i + 1)).take (at' b i - 128).toNat) (fun x hx => byteL_mem hb x (List.mem_of_mem_drop (List.mem_of_mem_take hx)))
              simp only
              omega
theorem fill_tlv (a b : Int) (c : Bool) (d r : Value) (hd : d.oneCell' = true) (hr : r.oneCell' = true) : True := trivial
theorem fillTlv (a b : Int) (c : Bool) (A B : Option Addr) (n m n' m' : Nat) : fillL [(0, 1), (1, 1), (2, 1), (3, 1), (4, 1)] #[(.int .i64 0), (.int .i64 0), (.bool false), (.slice none 0 0), (.slice none 0 0)] [(0, .int .i64 a), (1, .int .i64 b), (2, .bool c), (3, .slice A n m), (4, .slice B n' m')] = some (tcells ⟨a, b, c, [], []⟩ (.slice A n m) (.slice B n' m')).toArray := by kernel_rfl
theorem bslTlv {e : Nat} {z : List Value} (hz : z.length = 5) {cs : List Value} (hc : cs.length = 5) {w : World} {K : Value → World → Prop} (hK : ∀ w', New w w' cs → K (.slice (some ⟨w.heap.size, 0, none⟩) 1 1) w') : bslT e 5 1 z.toArray [(0, .agg cs.toArray)] w K .mk := by
  match z, hz with
  | [z0, z1, z2, z3, z4], _ =>
    match cs, hc with
    | [a, b, c, d, r], _ => exact ⟨#[a, b, c, d, r], by kernel_rfl, hK _ (new_of rfl rfl)⟩
theorem sl_val {k : IntKind} {w : World} {v : Value} {l : List Int} (h : Sl k w v l) : ∃ A c, v = .slice A l.length c := by
  obtain ⟨A, c, e, _⟩ := h.read; exact ⟨A, c, e⟩
theorem tcells_one (t : Tlv) (A B : Option Addr) (n m n' m' : Nat) : ∀ u ∈ tcells t (.slice A n m) (.slice B n' m'), u.oneCell' = true := by
  intro u hu
  simp only [tcells, List.mem_cons, List.not_mem_nil, or_false] at hu
  rcases hu with rfl | rfl | rfl | rfl | rfl <;> rfl
theorem Gg.lt {sz : Nat} {w0 w : World} {v : Value} {n : Nat} {cs : List Value} (g : Gg sz w0 w v n cs) : ∀ b, blkOf v = some b → b < w.heap.size := fun b e => g.sl.lt e
theorem clone_n {w : World} {A : Option Addr} {n c : Nat} {l : List Int} (hn : l.length = n) (hc : n ≤ c) (hr : Rd w A (nums .u8 l)) (hm : n ≤ 1073741824) (K : Value → World → Prop)
    (hK : ∀ A' c' w', Gw .u8 w w' (.slice A' n c') l → K (.slice A' n c') w') : callK Tryd.prog 46 [.slice A n c] w K := by
  refine clone_vw (Vw.of hn hc hr) (by omega) K fun v' w' g => ?_
  have h := g.sl.read
  obtain ⟨A', c', e, _⟩ := h
  rw [hn] at e
  subst e
  exact hK _ _ _ g
/-- One more element. -/
theorem Tls.add {w0 w w1 w2 w3 w4 : World} {X X' : Value} {ts : List Tlv} {vs : List Value} {t : Tlv} {d r : Value} (h : Tls w0 w X ts vs) (gd : Gw .u8 w w1 d t.data) (gr : Gw .u8 w1 w2 r t.raw) (f : Fr w2 w3 nob) (a : Ag 5 w3 X (ts.length + 1) (cellsT ts vs ++ tcells t d r) X' w4) : Tls w0 w4 X' (ts ++ [t]) (vs ++ [d, r]) := by
  have hX : ∀ b, blkOf X = some b → b < w.heap.size := fun b e => h.g.sl.lt e
  have r1 := h.r.add hX h.g.fr gd
  have r2 := r1.add (fun b e => Nat.lt_of_lt_of_le (hX b e) gd.fr.size) (h.g.fr.nb gd.fr) gr
  have r3 := (r2.nb f).row a
  refine ⟨?_, ?_⟩
  · rw [List.length_append, cellsT_add ts vs t d r h.vlen]
    exact (((h.g.step gd.fr).step gr.fr).step f).apd a
  · rw [tflat_add]
    simpa using r3
def tup3 (v : Value) (e : Int) (n : Nat) : Value := .tuple #[v, .int .i64 e, .int .i64 n]

set_option maxHeartbeats 2000000 in
theorem split_vw {w : World} {v : Value} {b : List Int} (hv : Vw .u8 w v b) (hb : ByteL b) (h63 : b.length ≤ 9223372036854775807) (K : Value → World → Prop)
    (hK : ∀ X vs w', Tls w w' X (splitR b).1 vs → K (tup3 X (splitR b).2.1 (splitR b).2.2) w') : callK Tryd.prog 25 [v] w K := by
  obtain ⟨A, c, rfl, hc, hr⟩ := hv
  refine call_of Tryd.func25 Code.h25 (by simp [Code.c25]) ?_
  unfold splitR at hK
  by_cases hm : (16777216 : Int) < (b.length : Int)
  · rw [if_pos (by omega)] at hK
    simp (disch := omega) only [wu64, wu32, wu8, fdiv_nn, EO, ↓EP, EQ, EM, ↓reduceIte, Int.reduceAdd, Int.reduceEq, Int.reduceLE, Int.reduceLT, Int.reduceMul, Int.reduceNeg, Int.reducePow, Int.reduceSub, Int.reduceToNat, Nat.reduceAdd, Nat.reduceEqDiff, Nat.reduceLT, Nat.reduceLeDiff, Nat.reduceMul, reduceCtorEq, Code.c25]
    exact hK _ [] _ (Tls.nil w)
  rw [if_neg (by omega)] at hK
  simp (disch := omega) only [wu64, wu32, wu8, fdiv_nn, EO, ↓EP, EQ, EM, ↓reduceIte, Int.reduceAdd, Int.reduceEq, Int.reduceLE, Int.reduceLT, Int.reduceMul, Int.reduceNeg, Int.reducePow, Int.reduceSub, Int.reduceToNat, Nat.reduceAdd, Nat.reduceEqDiff, Nat.reduceLT, Nat.reduceLeDiff, Nat.reduceMul, reduceCtorEq, Code.c25]
  refine loop_inv (fun t ρ w' => ∃ (p f : Nat) (X : Value) (ts : List Tlv) (vs : List Value), ρ 5 = .int .i64 p ∧ ρ 2 = X ∧ p ≤ b.length ∧ t = b.length - p ∧ b.length - p < f ∧ ts.length ≤ 65536 ∧ Tls w w' X ts vs ∧ splitGo b f p ts = splitGo b (b.length + 1) 0 []) _ ⟨0, b.length + 1, .slice none 0 0, [], [], by simp (disch := omega) only [wu64, wu32, wu8, fdiv_nn, EO, ↓EP, EQ, EM, ↓reduceIte, Int.reduceAdd, Int.reduceEq, Int.reduceLE, Int.reduceLT, Int.reduceMul, Int.reduceNeg, Int.reducePow, Int.reduceSub, Int.reduceToNat, Nat.reduceAdd, Nat.reduceEqDiff, Nat.reduceLT, Nat.reduceLeDiff, Nat.reduceMul, reduceCtorEq], by simp (disch := omega) only [wu64, wu32, wu8, fdiv_nn, EO, ↓EP, EQ, EM, ↓reduceIte, Int.reduceAdd, Int.reduceEq, Int.reduceLE, Int.reduceLT, Int.reduceMul, Int.reduceNeg, Int.reducePow, Int.reduceSub, Int.reduceToNat, Nat.reduceAdd, Nat.reduceEqDiff, Nat.reduceLT, Nat.reduceLeDiff, Nat.reduceMul, reduceCtorEq], by omega, rfl, by omega, by simp, Tls.nil w, rfl⟩ ?_
  rintro t ρ w1 hf ⟨p, f, X, ts, vs, h5, h2, hp, rfl, hfu, hts, T, hgo⟩ N hN
  have r0 : ρ 0 = .slice A b.length c := by rw [hf 0 rfl]; simp (disch := omega) only [wu64, wu32, wu8, fdiv_nn, EO, ↓EP, EQ, EM, ↓reduceIte, Int.reduceAdd, Int.reduceEq, Int.reduceLE, Int.reduceLT, Int.reduceMul, Int.reduceNeg, Int.reducePow, Int.reduceSub, Int.reduceToNat, Nat.reduceAdd, Nat.reduceEqDiff, Nat.reduceLT, Nat.reduceLeDiff, Nat.reduceMul, reduceCtorEq]
  clear hf
  rw [← hgo] at hK hN
  obtain ⟨f, rfl⟩ : ∃ g, f = g + 1 := ⟨f - 1, by omega⟩
  obtain ⟨XA, xc, rfl, hxc, _⟩ := T.g.sl.read
  by_cases hpl : (p : Int) < (b.length : Int)
  · rw [splitGo, if_neg (by omega)] at hK hN
    by_cases h64 : (ts.length : Int) = 65536
    · rw [if_pos (by omega)] at hK
      simp (disch := omega) only [wu64, wu32, wu8, fdiv_nn, EO, ↓EP, EQ, EM, ↓reduceIte, Int.reduceAdd, Int.reduceEq, Int.reduceLE, Int.reduceLT, Int.reduceMul, Int.reduceNeg, Int.reducePow, Int.reduceSub, Int.reduceToNat, Nat.reduceAdd, Nat.reduceEqDiff, Nat.reduceLT, Nat.reduceLeDiff, Nat.reduceMul, reduceCtorEq, h5, h2, r0, h64]
      exact hK _ [] _ ⟨⟨Sg.nil 5 w1, fun b e => (by cases e), T.g.fr⟩, Rws.nil w w1 _⟩
    rw [if_neg (by omega)] at hK hN
    simp (disch := omega) only [wu64, wu32, wu8, fdiv_nn, EO, ↓EP, EQ, EM, ↓reduceIte, Int.reduceAdd, Int.reduceEq, Int.reduceLE, Int.reduceLT, Int.reduceMul, Int.reduceNeg, Int.reducePow, Int.reduceSub, Int.reduceToNat, Nat.reduceAdd, Nat.reduceEqDiff, Nat.reduceLT, Nat.reduceLeDiff, Nat.reduceMul, reduceCtorEq, h5, h2, r0]
    have hr1 := hr.nb T.g.fr
    refine tag_vw (Vw.of rfl hc hr1) hb (by omega) (by omega) _ ?_
    simp only [tup4]
    have tok := tag_ok (b := b) (p := p) (by omega)
    generalize tagR b p = tg at *
    obtain ⟨tt, ti, te, ta⟩ := tg
    simp only at *
    by_cases hte : te = 0
    rotate_left
    · rw [if_pos hte] at hK
      have hte' : (te = 0) = False := eq_false hte
      simp (disch := omega) only [wu64, wu32, wu8, fdiv_nn, EO, ↓EP, EQ, EM, ↓reduceIte, Int.reduceAdd, Int.reduceEq, Int.reduceLE, Int.reduceLT, Int.reduceMul, Int.reduceNeg, Int.reducePow, Int.reduceSub, Int.reduceToNat, Nat.reduceAdd, Nat.reduceEqDiff, Nat.reduceLT, Nat.reduceLeDiff, Nat.reduceMul, reduceCtorEq, h5, r0, hte']
      exact hK _ [] _ ⟨⟨Sg.nil 5 w1, fun b e => (by cases e), T.g.fr⟩, Rws.nil w w1 _⟩
    rw [if_neg (by simpa using hte)] at hK hN
    obtain ⟨tok1, tok2⟩ := tok hte
    simp (disch := omega) only [wu64, wu32, wu8, fdiv_nn, EO, ↓EP, EQ, EM, ↓reduceIte, Int.reduceAdd, Int.reduceEq, Int.reduceLE, Int.reduceLT, Int.reduceMul, Int.reduceNeg, Int.reducePow, Int.reduceSub, Int.reduceToNat, Nat.reduceAdd, Nat.reduceEqDiff, Nat.reduceLT, Nat.reduceLeDiff, Nat.reduceMul, reduceCtorEq, h5, r0, hte]
    refine length_vw (Vw.of rfl hc hr1) hb tok2 (by omega) _ ?_
    simp only [tup4]
    have lok := len_ok (b := b) (i := ti) hb
    generalize lenR b ti = lg at *
    obtain ⟨ln, lj, le, la⟩ := lg
    simp only at *
    by_cases hle : le = 0
    rotate_left
    · rw [if_pos hle] at hK
      have hle' : (le = 0) = False := eq_false hle
      simp (disch := omega) only [wu64, wu32, wu8, fdiv_nn, EO, ↓EP, EQ, EM, ↓reduceIte, Int.reduceAdd, Int.reduceEq, Int.reduceLE, Int.reduceLT, Int.reduceMul, Int.reduceNeg, Int.reducePow, Int.reduceSub, Int.reduceToNat, Nat.reduceAdd, Nat.reduceEqDiff, Nat.reduceLT, Nat.reduceLeDiff, Nat.reduceMul, reduceCtorEq, h5, r0, hle']
      exact hK _ [] _ ⟨⟨Sg.nil 5 w1, fun b e => (by cases e), T.g.fr⟩, Rws.nil w w1 _⟩
    rw [if_neg (by simpa using hle)] at hK hN
    obtain ⟨lok1, lok2, lok3⟩ := lok hle
    obtain ⟨ln, rfl⟩ := Int.eq_ofNat_of_zero_le lok2
    rw [Int.toNat_natCast] at lok3 hK hN
    obtain ⟨ad, rfl, _, _⟩ := hr.get (by rw [nums_length]; omega)
    have cellf : ∀ w', Fr w w' nob → w'.cell? (ad.add p) = some (.int .u8 (at' b (p : Int))) := fun w' f => by
      obtain ⟨ad', e', _, hcl⟩ := (hr.nb f).get (by rw [nums_length]; omega)
      cases e'
      exact hcl.numN (by omega)
    have cp := cellf w1 T.g.fr
    have bp := hb p
    have e32 := d8_and32 bp
    have ee : ((lj : Int) + (ln : Int)).toNat - lj = ln := by omega
    have ee2 : ((lj : Int) + (ln : Int)).toNat - p = lj + ln - p := by omega
    have hbit : at' b (p : Int) / 32 % 2 = 0 ∨ at' b (p : Int) / 32 % 2 = 1 := by omega
    clear e32
    rcases hbit with hbit | hbit
    · have e32 : bits .and .u8 (at' b (p : Int)) 32 = 0 := by rw [d8_and32 bp]; omega
      have hcons : decide (at' b (p : Int) / 32 % 2 = 1) = false := decide_eq_false (by omega)
      rw [hcons] at hK hN
      simp (disch := omega) only [wu64, wu32, wu8, fdiv_nn, EO, ↓EP, EQ, EM, ↓reduceIte, Int.reduceAdd, Int.reduceEq, Int.reduceLE, Int.reduceLT, Int.reduceMul, Int.reduceNeg, Int.reducePow, Int.reduceSub, Int.reduceToNat, Nat.reduceAdd, Nat.reduceEqDiff, Nat.reduceLT, Nat.reduceLeDiff, Nat.reduceMul, reduceCtorEq, h5, h2, r0, hle, cp, e32, ee, ee2]
      intro m1
      have f1 := T.g.fr.nb (Fr.drewN w1 (1 + m1) nob)
      refine clone_n (l := (b.drop lj).take ln) (by simp; omega) (by omega) (((hr.nb f1).subA c lj hc).take ln) (by omega) _ fun dA dc w2 g2 => ?_
      have f2 := f1.nb g2.fr
      have c2 := cellf w2 f2
      simp (disch := omega) only [wu64, wu32, wu8, fdiv_nn, EO, ↓EP, EQ, EM, ↓reduceIte, Int.reduceAdd, Int.reduceEq, Int.reduceLE, Int.reduceLT, Int.reduceMul, Int.reduceNeg, Int.reducePow, Int.reduceSub, Int.reduceToNat, Nat.reduceAdd, Nat.reduceEqDiff, Nat.reduceLT, Nat.reduceLeDiff, Nat.reduceMul, reduceCtorEq, h5, h2, r0, hle, c2, e32, ee, ee2]
      intro m2
      have f2' := f2.nb (Fr.drewN w2 m2 nob)
      refine clone_n (l := (b.drop p).take (lj + ln - p)) (by simp; omega) (by omega) (((hr.nb f2').subA c p hc).take (lj + ln - p)) (by omega) _ fun rA rc w3 g3 => ?_
      have f3 := f2'.nb g3.fr
      have c3 := cellf w3 f3
      simp (disch := omega) only [wu64, wu32, wu8, fdiv_nn, EO, ↓EP, EQ, EM, ↓reduceIte, Int.reduceAdd, Int.reduceEq, Int.reduceLE, Int.reduceLT, Int.reduceMul, Int.reduceNeg, Int.reducePow, Int.reduceSub, Int.reduceToNat, Nat.reduceAdd, Nat.reduceEqDiff, Nat.reduceLT, Nat.reduceLeDiff, Nat.reduceMul, reduceCtorEq, h5, h2, r0, hle, c3]
      refine ⟨_, fillTlv _ _ _ _ _ _ _ _ _, ?_⟩
      simp (disch := omega) only [wu64, wu32, wu8, fdiv_nn, EO, ↓EP, EQ, EM, ↓reduceIte, Int.reduceAdd, Int.reduceEq, Int.reduceLE, Int.reduceLT, Int.reduceMul, Int.reduceNeg, Int.reducePow, Int.reduceSub, Int.reduceToNat, Nat.reduceAdd, Nat.reduceEqDiff, Nat.reduceLT, Nat.reduceLeDiff, Nat.reduceMul, reduceCtorEq, h5, h2, r0, hle, c3]
      intro m3
      refine bslTlv rfl rfl fun w4 n4 => ?_
      have f34 := (Fr.drewN w3 m3 nob).nb (n4.fr nob)
      have c4 := cellf w4 (f3.nb f34)
      simp (disch := omega) only [wu64, wu32, wu8, fdiv_nn, EO, ↓EP, EQ, EM, ↓reduceIte, Int.reduceAdd, Int.reduceEq, Int.reduceLE, Int.reduceLT, Int.reduceMul, Int.reduceNeg, Int.reducePow, Int.reduceSub, Int.reduceToNat, Nat.reduceAdd, Nat.reduceEqDiff, Nat.reduceLT, Nat.reduceLeDiff, Nat.reduceMul, reduceCtorEq, h5, h2, r0, hle, c4]
      intro m4
      have T5 : Tls w (w4.drewN m4) _ ts vs := ((((T.nb (Fr.drewN w1 (1 + m1) nob)).nb g2.fr).nb (Fr.drewN w2 m2 nob)).nb g3.fr).nb (f34.nb (Fr.drewN w4 m4 nob))
      refine app_g T5.g.sl rfl rfl (tcells_one _ _ _ _ _ _ _) (n4.rdv.nb (Fr.drewN w4 m4 nob)) (by omega) (by omega) (by omega) fun X' w5 a5 => ?_
      have f5 := (T5.g.apd a5).fr
      have c5 := cellf w5 f5
      have T6 := Tls.add (t := ⟨at' b (p : Int) / 64, tt, false, (b.drop lj).take ln, (b.drop p).take (lj + ln - p)⟩) (T.nb (Fr.drewN w1 (1 + m1) nob)) (g2.step (Fr.drewN w2 m2 nob)) g3 (f34.nb (Fr.drewN w4 m4 nob)) a5
      simp (disch := omega) only [wu64, wu32, wu8, fdiv_nn, EO, ↓EP, EQ, EM, ↓reduceIte, Int.reduceAdd, Int.reduceEq, Int.reduceLE, Int.reduceLT, Int.reduceMul, Int.reduceNeg, Int.reducePow, Int.reduceSub, Int.reduceToNat, Nat.reduceAdd, Nat.reduceEqDiff, Nat.reduceLT, Nat.reduceLeDiff, Nat.reduceMul, reduceCtorEq, h5, r0, hle, c5]
      intro m5
      refine hN (b.length - (lj + ln)) _ _ (by omega) ⟨lj + ln, f, X', _, _, by simp (disch := omega) only [wu64, wu32, wu8, fdiv_nn, EO, ↓EP, EQ, EM, ↓reduceIte, Int.reduceAdd, Int.reduceEq, Int.reduceLE, Int.reduceLT, Int.reduceMul, Int.reduceNeg, Int.reducePow, Int.reduceSub, Int.reduceToNat, Nat.reduceAdd, Nat.reduceEqDiff, Nat.reduceLT, Nat.reduceLeDiff, Nat.reduceMul, reduceCtorEq, Int.natCast_add], by simp (disch := omega) only [wu64, wu32, wu8, fdiv_nn, EO, ↓EP, EQ, EM, ↓reduceIte, Int.reduceAdd, Int.reduceEq, Int.reduceLE, Int.reduceLT, Int.reduceMul, Int.reduceNeg, Int.reducePow, Int.reduceSub, Int.reduceToNat, Nat.reduceAdd, Nat.reduceEqDiff, Nat.reduceLT, Nat.reduceLeDiff, Nat.reduceMul, reduceCtorEq], by omega, rfl, by omega, by simp; omega, T6.nb (Fr.drewN w5 m5 nob), rfl⟩
    · have e32 : bits .and .u8 (at' b (p : Int)) 32 = 32 := by rw [d8_and32 bp]; omega
      have hcons : decide (at' b (p : Int) / 32 % 2 = 1) = true := decide_eq_true hbit
      rw [hcons] at hK hN
      simp (disch := omega) only [wu64, wu32, wu8, fdiv_nn, EO, ↓EP, EQ, EM, ↓reduceIte, Int.reduceAdd, Int.reduceEq, Int.reduceLE, Int.reduceLT, Int.reduceMul, Int.reduceNeg, Int.reducePow, Int.reduceSub, Int.reduceToNat, Nat.reduceAdd, Nat.reduceEqDiff, Nat.reduceLT, Nat.reduceLeDiff, Nat.reduceMul, reduceCtorEq, h5, h2, r0, hle, cp, e32, ee, ee2]
      intro m1
      have f1 := T.g.fr.nb (Fr.drewN w1 (1 + m1) nob)
      refine clone_n (l := (b.drop lj).take ln) (by simp; omega) (by omega) (((hr.nb f1).subA c lj hc).take ln) (by omega) _ fun dA dc w2 g2 => ?_
      have f2 := f1.nb g2.fr
      have c2 := cellf w2 f2
      simp (disch := omega) only [wu64, wu32, wu8, fdiv_nn, EO, ↓EP, EQ, EM, ↓reduceIte, Int.reduceAdd, Int.reduceEq, Int.reduceLE, Int.reduceLT, Int.reduceMul, Int.reduceNeg, Int.reducePow, Int.reduceSub, Int.reduceToNat, Nat.reduceAdd, Nat.reduceEqDiff, Nat.reduceLT, Nat.reduceLeDiff, Nat.reduceMul, reduceCtorEq, h5, h2, r0, hle, c2, e32, ee, ee2]
      intro m2
      have f2' := f2.nb (Fr.drewN w2 m2 nob)
      refine clone_n (l := (b.drop p).take (lj + ln - p)) (by simp; omega) (by omega) (((hr.nb f2').subA c p hc).take (lj + ln - p)) (by omega) _ fun rA rc w3 g3 => ?_
      have f3 := f2'.nb g3.fr
      have c3 := cellf w3 f3
      simp (disch := omega) only [wu64, wu32, wu8, fdiv_nn, EO, ↓EP, EQ, EM, ↓reduceIte, Int.reduceAdd, Int.reduceEq, Int.reduceLE, Int.reduceLT, Int.reduceMul, Int.reduceNeg, Int.reducePow, Int.reduceSub, Int.reduceToNat, Nat.reduceAdd, Nat.reduceEqDiff, Nat.reduceLT, Nat.reduceLeDiff, Nat.reduceMul, reduceCtorEq, h5, h2, r0, hle, c3]
      refine ⟨_, fillTlv _ _ _ _ _ _ _ _ _, ?_⟩
      simp (disch := omega) only [wu64, wu32, wu8, fdiv_nn, EO, ↓EP, EQ, EM, ↓reduceIte, Int.reduceAdd, Int.reduceEq, Int.reduceLE, Int.reduceLT, Int.reduceMul, Int.reduceNeg, Int.reducePow, Int.reduceSub, Int.reduceToNat, Nat.reduceAdd, Nat.reduceEqDiff, Nat.reduceLT, Nat.reduceLeDiff, Nat.reduceMul, reduceCtorEq, h5, h2, r0, hle, c3]
      intro m3
      refine bslTlv rfl rfl fun w4 n4 => ?_
      have f34 := (Fr.drewN w3 m3 nob).nb (n4.fr nob)
      have c4 := cellf w4 (f3.nb f34)
      simp (disch := omega) only [wu64, wu32, wu8, fdiv_nn, EO, ↓EP, EQ, EM, ↓reduceIte, Int.reduceAdd, Int.reduceEq, Int.reduceLE, Int.reduceLT, Int.reduceMul, Int.reduceNeg, Int.reducePow, Int.reduceSub, Int.reduceToNat, Nat.reduceAdd, Nat.reduceEqDiff, Nat.reduceLT, Nat.reduceLeDiff, Nat.reduceMul, reduceCtorEq, h5, h2, r0, hle, c4]
      intro m4
      have T5 : Tls w (w4.drewN m4) _ ts vs := ((((T.nb (Fr.drewN w1 (1 + m1) nob)).nb g2.fr).nb (Fr.drewN w2 m2 nob)).nb g3.fr).nb (f34.nb (Fr.drewN w4 m4 nob))
      refine app_g T5.g.sl rfl rfl (tcells_one _ _ _ _ _ _ _) (n4.rdv.nb (Fr.drewN w4 m4 nob)) (by omega) (by omega) (by omega) fun X' w5 a5 => ?_
      have f5 := (T5.g.apd a5).fr
      have c5 := cellf w5 f5
      have T6 := Tls.add (t := ⟨at' b (p : Int) / 64, tt, true, (b.drop lj).take ln, (b.drop p).take (lj + ln - p)⟩) (T.nb (Fr.drewN w1 (1 + m1) nob)) (g2.step (Fr.drewN w2 m2 nob)) g3 (f34.nb (Fr.drewN w4 m4 nob)) a5
      simp (disch := omega) only [wu64, wu32, wu8, fdiv_nn, EO, ↓EP, EQ, EM, ↓reduceIte, Int.reduceAdd, Int.reduceEq, Int.reduceLE, Int.reduceLT, Int.reduceMul, Int.reduceNeg, Int.reducePow, Int.reduceSub, Int.reduceToNat, Nat.reduceAdd, Nat.reduceEqDiff, Nat.reduceLT, Nat.reduceLeDiff, Nat.reduceMul, reduceCtorEq, h5, r0, hle, c5]
      intro m5
      refine hN (b.length - (lj + ln)) _ _ (by omega) ⟨lj + ln, f, X', _, _, by simp (disch := omega) only [wu64, wu32, wu8, fdiv_nn, EO, ↓EP, EQ, EM, ↓reduceIte, Int.reduceAdd, Int.reduceEq, Int.reduceLE, Int.reduceLT, Int.reduceMul, Int.reduceNeg, Int.reducePow, Int.reduceSub, Int.reduceToNat, Nat.reduceAdd, Nat.reduceEqDiff, Nat.reduceLT, Nat.reduceLeDiff, Nat.reduceMul, reduceCtorEq, Int.natCast_add], by simp (disch := omega) only [wu64, wu32, wu8, fdiv_nn, EO, ↓EP, EQ, EM, ↓reduceIte, Int.reduceAdd, Int.reduceEq, Int.reduceLE, Int.reduceLT, Int.reduceMul, Int.reduceNeg, Int.reducePow, Int.reduceSub, Int.reduceToNat, Nat.reduceAdd, Nat.reduceEqDiff, Nat.reduceLT, Nat.reduceLeDiff, Nat.reduceMul, reduceCtorEq], by omega, rfl, by omega, by simp; omega, T6.nb (Fr.drewN w5 m5 nob), rfl⟩
  · have hpl' : p = b.length := by omega
    subst hpl'
    rw [splitGo, if_pos (Nat.le_refl _)] at hK
    simp (disch := omega) only [wu64, wu32, wu8, fdiv_nn, EO, ↓EP, EQ, EM, ↓reduceIte, Int.reduceAdd, Int.reduceEq, Int.reduceLE, Int.reduceLT, Int.reduceMul, Int.reduceNeg, Int.reducePow, Int.reduceSub, Int.reduceToNat, Nat.reduceAdd, Nat.reduceEqDiff, Nat.reduceLT, Nat.reduceLeDiff, Nat.reduceMul, reduceCtorEq, h5, h2, r0]
    exact hK _ vs _ T
end Go.Proofs.YtcflokckfjkdpaaDoor.Der
