/- Numbers by limbs: what rows of elements need of them. -/
import Derived.Test.YtcflokckfjkdpaaDoorCodes4
import Derived.Test.YtcflokckfjkdpaaDoorNm6
import Derived.Test.YtcflokckfjkdpaaDoorBitD
set_option linter.unusedVariables false
set_option linter.unusedSimpArgs false
namespace Go.Proofs.YtcflokckfjkdpaaDoor.Spec
open Go Go.RowKit Go.Proofs Go.Proofs.YtcflokckfjkdpaaDoor.Eng Go.Proofs.YtcflokckfjkdpaaDoor.Code Go.Proofs.YtcflokckfjkdpaaDoor.Big
set_option maxRecDepth 100000
attribute [local irreducible] callK S.W opsW scrW

theorem len32_spec (x : Int) (hx : 0 ≤ x ∧ x < 4294967296) (w : World) (K : Value → World → Prop)
    (hK : K (.int .i64 (bl x : Int)) w) : callK Tryd.prog 73 [.int .u32 x] w K := by
  refine call_of Tryd.func73 Code.h73 (by simp [Code.c73]) ?_
  have low : ∀ (y n : Int), 0 ≤ y → y < 256 → 0 ≤ n → n < 100 → (bl x : Int) = n + bl y → ∃ h : y.toNat < lenTab.size, K (.int .i64 (IntKind.i64.wrap (n + IntKind.i64.wrap ((lenTab[y.toNat]'h).toNat : Int)))) w := by
    intro y n h0 h1 h2 h3 e
    have hb : bl y ≤ 8 := (bl_le h0).2 (by omega)
    obtain ⟨h, e2⟩ := lenTab_all ⟨y.toNat, by omega⟩
    simp only at e2
    refine ⟨h, ?_⟩
    rw [e2, show ((y.toNat : Nat) : Int) = y by omega, w64 (n := (bl y : Int)) (by omega) (by omega), w64 (by omega) (by omega), ← e]
    exact hK
  have f256 : ∀ y : Int, 256 ≤ y → (bl y : Int) = 8 + bl (y / 256) := fun y h => by have := bl_div (v := y) (k := 8) (by omega); simp at this; omega
  have f65536 : 65536 ≤ x → (bl x : Int) = 16 + bl (x / 65536) := fun h => by have := bl_div (v := x) (k := 16) (by omega); simp at this; omega
  by_cases h1 : 65536 ≤ x
  · have := f65536 h1
    by_cases h2 : 256 ≤ x / 65536
    · have := f256 _ h2
      simp (disch := omega) only [wu64, wu32, wu8, fdiv_nn, EO, ↓EP, EQ, EM, ↓reduceIte, Int.reduceAdd, Int.reduceEq, Int.reduceLE, Int.reduceLT, Int.reduceMul, Int.reduceNeg, Int.reducePow, Int.reduceSub, Int.reduceToNat, Nat.reduceAdd, Nat.reduceEqDiff, Nat.reduceLT, Nat.reduceLeDiff, Nat.reduceMul, reduceCtorEq, Code.c73, W_join, ixsK]
      exact low _ _ (by omega) (by omega) (by omega) (by omega) (by omega)
    · simp (disch := omega) only [wu64, wu32, wu8, fdiv_nn, EO, ↓EP, EQ, EM, ↓reduceIte, Int.reduceAdd, Int.reduceEq, Int.reduceLE, Int.reduceLT, Int.reduceMul, Int.reduceNeg, Int.reducePow, Int.reduceSub, Int.reduceToNat, Nat.reduceAdd, Nat.reduceEqDiff, Nat.reduceLT, Nat.reduceLeDiff, Nat.reduceMul, reduceCtorEq, Code.c73, W_join, ixsK]
      exact low _ _ (by omega) (by omega) (by omega) (by omega) (by omega)
  · by_cases h2 : 256 ≤ x
    · have := f256 _ h2
      simp (disch := omega) only [wu64, wu32, wu8, fdiv_nn, EO, ↓EP, EQ, EM, ↓reduceIte, Int.reduceAdd, Int.reduceEq, Int.reduceLE, Int.reduceLT, Int.reduceMul, Int.reduceNeg, Int.reducePow, Int.reduceSub, Int.reduceToNat, Nat.reduceAdd, Nat.reduceEqDiff, Nat.reduceLT, Nat.reduceLeDiff, Nat.reduceMul, reduceCtorEq, Code.c73, W_join, ixsK]
      exact low _ _ (by omega) (by omega) (by omega) (by omega) (by omega)
    · simp (disch := omega) only [wu64, wu32, wu8, fdiv_nn, EO, ↓EP, EQ, EM, ↓reduceIte, Int.reduceAdd, Int.reduceEq, Int.reduceLE, Int.reduceLT, Int.reduceMul, Int.reduceNeg, Int.reducePow, Int.reduceSub, Int.reduceToNat, Nat.reduceAdd, Nat.reduceEqDiff, Nat.reduceLT, Nat.reduceLeDiff, Nat.reduceMul, reduceCtorEq, Code.c73, W_join, ixsK]
      exact low _ _ (by omega) (by omega) (by omega) (by omega) (by omega)
theorem cut_spec {w : World} {A : Option Addr} {n c : Nat} {l : List Int} (hn : l.length = n) (hl : Rd w A (nums .u32 l)) (hL : Lim l) (hc : n ≤ c) (h63 : n ≤ 4611686018427387904) (K : Value → World → Prop)
    (hK : ∀ m, m ≤ n → l.take m = limbs (val l) → m = (limbs (val l)).length → K (.slice A m c) w) : callK Tryd.prog 72 [.slice A n c] w K := by
  refine call_of Tryd.func72 Code.h72 (by simp [Code.c72]) ?_
  subst hn
  simp (disch := omega) only [EO, ↓EP, EQ, EM, ↓reduceIte, Int.reduceAdd, Int.reduceEq, Int.reduceLE, Int.reduceLT, Int.reduceMul, Int.reduceNeg, Int.reducePow, Int.reduceSub, Int.reduceToNat, Nat.reduceAdd, Nat.reduceEqDiff, Nat.reduceLT, Nat.reduceLeDiff, Nat.reduceMul, reduceCtorEq, Code.c72]
  refine loop_inv (fun t ρ w' => w' = w ∧ ρ 3 = .int .i64 t ∧ t ≤ l.length ∧ ∀ j : Nat, t ≤ j → j < l.length → at' l j = 0) l.length ⟨rfl, by simp (disch := omega) only [EO, ↓EP, EQ, EM, ↓reduceIte, Int.reduceAdd, Int.reduceEq, Int.reduceLE, Int.reduceLT, Int.reduceMul, Int.reduceNeg, Int.reducePow, Int.reduceSub, Int.reduceToNat, Nat.reduceAdd, Nat.reduceEqDiff, Nat.reduceLT, Nat.reduceLeDiff, Nat.reduceMul, reduceCtorEq], Nat.le_refl _, fun j h1 h2 => by omega⟩ ?_
  rintro t ρ w' hf ⟨rfl, h3, ht, hz⟩ N hN
  have r0 : ρ 0 = .slice A l.length c := by rw [hf 0 rfl]; simp only [↓EP, EQ, EM, ↓reduceIte, Int.reduceAdd, Int.reduceEq, Int.reduceLE, Int.reduceLT, Int.reduceMul, Int.reduceNeg, Int.reducePow, Int.reduceSub, Int.reduceToNat, Nat.reduceAdd, Nat.reduceEqDiff, Nat.reduceLT, Nat.reduceLeDiff, Nat.reduceMul, reduceCtorEq]
  clear hf
  have fin : (t = 0 ∨ at' l ((t - 1 : Nat) : Int) ≠ 0) → K (.slice A t c) w' := fun h => by
    have e := cut_can hL ht hz h
    exact hK t ht e (by rw [← e, List.length_take]; omega)
  cases t with
  | zero =>
    simp (disch := omega) only [EO, ↓EP, EQ, EM, ↓reduceIte, Int.reduceAdd, Int.reduceEq, Int.reduceLE, Int.reduceLT, Int.reduceMul, Int.reduceNeg, Int.reducePow, Int.reduceSub, Int.reduceToNat, Nat.reduceAdd, Nat.reduceEqDiff, Nat.reduceLT, Nat.reduceLeDiff, Nat.reduceMul, reduceCtorEq, h3, r0, Int.natCast_zero]
    exact fin (.inl rfl)
  | succ k =>
    obtain ⟨p, rfl, _, hp⟩ := hl.get (by rw [nums_length]; omega)
    have cp := hp.numN (j := k) (by omega)
    have e1 : ((k + 1 : Nat) : Int) - 1 = k := by omega
    by_cases he : at' l k = 0
    · simp (disch := omega) only [EO, ↓EP, EQ, EM, ↓reduceIte, Int.reduceAdd, Int.reduceEq, Int.reduceLE, Int.reduceLT, Int.reduceMul, Int.reduceNeg, Int.reducePow, Int.reduceSub, Int.reduceToNat, Nat.reduceAdd, Nat.reduceEqDiff, Nat.reduceLT, Nat.reduceLeDiff, Nat.reduceMul, reduceCtorEq, h3, r0, e1, cp, he]
      exact hN k _ _ (by omega) ⟨rfl, by simp (disch := omega) only [EO, ↓EP, EQ, EM, ↓reduceIte, Int.reduceAdd, Int.reduceEq, Int.reduceLE, Int.reduceLT, Int.reduceMul, Int.reduceNeg, Int.reducePow, Int.reduceSub, Int.reduceToNat, Nat.reduceAdd, Nat.reduceEqDiff, Nat.reduceLT, Nat.reduceLeDiff, Nat.reduceMul, reduceCtorEq], by omega, fun j h1 h2 => by
        by_cases hj : j = k
        · subst hj; exact he
        · exact hz j (by omega) h2⟩
    · have hf : (at' l k = 0) = False := eq_false he
      simp (disch := omega) only [EO, ↓EP, EQ, EM, ↓reduceIte, Int.reduceAdd, Int.reduceEq, Int.reduceLE, Int.reduceLT, Int.reduceMul, Int.reduceNeg, Int.reducePow, Int.reduceSub, Int.reduceToNat, Nat.reduceAdd, Nat.reduceEqDiff, Nat.reduceLT, Nat.reduceLeDiff, Nat.reduceMul, reduceCtorEq, h3, r0, e1, cp, hf]
      exact fin (.inr (by rw [show k + 1 - 1 = k by omega]; exact he))
theorem blk_rd {k : IntKind} {w : World} {b : Nat} {l : List Int} (hB : Blk w b (nums k l)) : Rd w (some ⟨b, 0, none⟩) (nums k l) := hB.rd 0 (n := l.length) (by rw [List.drop_zero, nums_take]; simp)
theorem val_drop_at (l : List Int) {k : Nat} (h : k < l.length) : val (l.drop k) = at' l k + 4294967296 * val (l.drop (k + 1)) := by
  rw [List.drop_eq_getElem_cons h, val_cons, at_get h]
/-- A block of the call's own, cut. -/
theorem own_cut {k : IntKind} {w0 w : World} {b m n : Nat} {l l' : List Int} (hB : Blk w b (nums k l)) (hb : w0.heap.size ≤ b) (f : Fr w0 w nob) (hn : l.length = n) (hm : m ≤ n) (he : l.take m = l') : Gw k w0 w (.slice (some ⟨b, 0, none⟩) m n) l' := by
  refine ⟨.inr ⟨b, l.drop m, ?_, ?_⟩, fun x e => by cases e; exact hb, f⟩
  · rw [← he, List.length_take, List.length_drop, Nat.min_eq_left (by omega)]
    congr 1; omega
  · rw [← he, List.take_append_drop]; exact hB
theorem can_top {v : Int} (hv : 0 ≤ v) {k : Nat} (hk : (limbs v).length = k + 1) : at' (limbs v) k ≠ 0 ∧ bl v = 32 * k + bl (at' (limbs v) k) := by
  have hc := limbs_can v
  have h0 : at' (limbs v) k ≠ 0 := by
    rcases hc.2 with e | e
    · rw [e] at hk; simp at hk
    · rw [hk] at e; exact e
  refine ⟨h0, ?_⟩
  have := bl_val hc.1 hk h0
  rwa [limbs_val hv] at this
theorem bits_spec {w : World} {A : Option Addr} {n c : Nat} {l : List Int} (hn : l.length = n) (hl : Rd w A (nums .u32 l)) (hL : Lim l) (hc : n ≤ c) (hn' : n ≤ 1099511627776) (K : Value → World → Prop)
    (hK : K (.int .i64 (bl (val l) : Int)) w) : callK Tryd.prog 60 [.slice A n c] w K := by
  refine call_of Tryd.func60 Code.h60 (by simp [Code.c60]) ?_
  simp (disch := omega) only [EO, ↓EP, EQ, EM, ↓reduceIte, Int.reduceAdd, Int.reduceEq, Int.reduceLE, Int.reduceLT, Int.reduceMul, Int.reduceNeg, Int.reducePow, Int.reduceSub, Int.reduceToNat, Nat.reduceAdd, Nat.reduceEqDiff, Nat.reduceLT, Nat.reduceLeDiff, Nat.reduceMul, reduceCtorEq, Code.c60]
  have hv := (val_bd hL).1
  refine cut_spec hn hl hL hc (by omega) _ fun m hm he hlen => ?_
  cases m with
  | zero =>
    simp (disch := omega) only [EO, ↓EP, EQ, EM, ↓reduceIte, Int.reduceAdd, Int.reduceEq, Int.reduceLE, Int.reduceLT, Int.reduceMul, Int.reduceNeg, Int.reducePow, Int.reduceSub, Int.reduceToNat, Nat.reduceAdd, Nat.reduceEqDiff, Nat.reduceLT, Nat.reduceLeDiff, Nat.reduceMul, reduceCtorEq, Int.natCast_zero]
    have e : val l = 0 := limbs_nil hv (List.length_eq_zero_iff.1 hlen.symm)
    rw [e, bl_zero] at hK
    exact hK
  | succ k =>
    obtain ⟨h0, hb⟩ := can_top hv hlen.symm
    have hr := hl.take (k + 1)
    rw [he] at hr
    obtain ⟨p, rfl, _, hp⟩ := hr.get (by rw [nums_length]; omega)
    have cp := hp.numN (j := k) (by omega)
    have e1 : ((k + 1 : Nat) : Int) - 1 = k := by omega
    have bt := (limbs_lim (val l)).at k
    have hb32 : bl (at' (limbs (val l)) k) ≤ 32 := (bl_le bt.1).2 (by omega)
    simp (disch := omega) only [EO, ↓EP, EQ, EM, ↓reduceIte, Int.reduceAdd, Int.reduceEq, Int.reduceLE, Int.reduceLT, Int.reduceMul, Int.reduceNeg, Int.reducePow, Int.reduceSub, Int.reduceToNat, Nat.reduceAdd, Nat.reduceEqDiff, Nat.reduceLT, Nat.reduceLeDiff, Nat.reduceMul, reduceCtorEq, e1, cp]
    refine len32_spec _ bt _ _ ?_
    have e2 : (32 : Int) * k + bl (at' (limbs (val l)) k) = (bl (val l) : Int) := by rw [hb]; push_cast; rfl
    simp (disch := omega) only [EO, ↓EP, EQ, EM, ↓reduceIte, Int.reduceAdd, Int.reduceEq, Int.reduceLE, Int.reduceLT, Int.reduceMul, Int.reduceNeg, Int.reducePow, Int.reduceSub, Int.reduceToNat, Nat.reduceAdd, Nat.reduceEqDiff, Nat.reduceLT, Nat.reduceLeDiff, Nat.reduceMul, reduceCtorEq, e2]
    exact hK
theorem bits_vw {w : World} {va : Value} {l : List Int} (ha : Vw .u32 w va l) (hL : Lim l) (h : l.length ≤ 1099511627776) (K : Value → World → Prop)
    (hK : K (.int .i64 (bl (val l) : Int)) w) : callK Tryd.prog 60 [va] w K := by
  obtain ⟨A, c, rfl, hc, hr⟩ := ha
  exact bits_spec rfl hr hL hc h K hK
set_option maxHeartbeats 1000000 in
theorem frombytes_vw {w : World} {va : Value} {l : List Int} (ha : Vw .u8 w va l) (hL : Byt l) (K : Value → World → Prop)
    (hK : ∀ v w', Gw .u32 w w' v (fbR l).1 → K (.tuple #[v, .int .i64 (fbR l).2]) w') : callK Tryd.prog 59 [va] w K := by
  obtain ⟨A, c, rfl, hc, hr⟩ := ha
  refine call_of Tryd.func59 Code.h59 (by simp [Code.c59]) ?_
  by_cases hbig : 2048 < l.length
  · have e : fbR l = ([], 3) := by unfold fbR; rw [if_pos hbig]
    rw [e] at hK
    simp (disch := omega) only [EO, ↓EP, EQ, EM, ↓reduceIte, Int.reduceAdd, Int.reduceEq, Int.reduceLE, Int.reduceLT, Int.reduceMul, Int.reduceNeg, Int.reducePow, Int.reduceSub, Int.reduceToNat, Nat.reduceAdd, Nat.reduceEqDiff, Nat.reduceLT, Nat.reduceLeDiff, Nat.reduceMul, reduceCtorEq, Code.c59]
    exact hK _ w (Gw.nil _ _)
  have e : fbR l = (limbs (bv l), 0) := by unfold fbR; rw [if_neg hbig]
  rw [e] at hK
  obtain ⟨N, hN⟩ : ∃ N : Nat, N = (l.length + 3) / 4 := ⟨_, rfl⟩
  have eN : (((l.length : Int) + 3) / 4).toNat = N := by omega
  simp (disch := omega) only [EO, ↓EP, EQ, EM, ↓reduceIte, Int.reduceAdd, Int.reduceEq, Int.reduceLE, Int.reduceLT, Int.reduceMul, Int.reduceNeg, Int.reducePow, Int.reduceSub, Int.reduceToNat, Nat.reduceAdd, Nat.reduceEqDiff, Nat.reduceLT, Nat.reduceLeDiff, Nat.reduceMul, reduceCtorEq, Code.c59]
  refine al_k (nums .u32 (List.replicate N 0)) (by rw [madeCells_list, nums_replicate, eN]) fun w1 n1 => ?_
  simp (disch := omega) only [EO, ↓EP, EQ, EM, ↓reduceIte, Int.reduceAdd, Int.reduceEq, Int.reduceLE, Int.reduceLT, Int.reduceMul, Int.reduceNeg, Int.reducePow, Int.reduceSub, Int.reduceToNat, Nat.reduceAdd, Nat.reduceEqDiff, Nat.reduceLT, Nat.reduceLeDiff, Nat.reduceMul, reduceCtorEq, eN]
  refine loop_inv (fun t ρ w2 => ∃ (k : Nat) (o : List Int), ρ 16 = .int .i64 k ∧ k ≤ l.length ∧ t = l.length - k ∧ Blk w2 w.heap.size (nums .u32 o) ∧ o.length = N ∧ Lim o ∧ val o = leb (l.reverse.take k) ∧ Fr w w2 nob) _
    ⟨0, _, by simp (disch := omega) only [EO, ↓EP, EQ, EM, ↓reduceIte, Int.reduceAdd, Int.reduceEq, Int.reduceLE, Int.reduceLT, Int.reduceMul, Int.reduceNeg, Int.reducePow, Int.reduceSub, Int.reduceToNat, Nat.reduceAdd, Nat.reduceEqDiff, Nat.reduceLT, Nat.reduceLeDiff, Nat.reduceMul, reduceCtorEq], by omega, rfl, n1.blk, by simp, Lim.zeros _, by rw [val_zeros]; rfl, n1.fr nob⟩ ?_
  rintro t ρ w2 hf ⟨k, o, h16, hk, rfl, hB, ho, hO, hv, f2⟩ M hM
  have q0 : ρ 0 = .slice A l.length c := by rw [hf 0 rfl]; simp (disch := omega) only [EO, ↓EP, EQ, EM, ↓reduceIte, Int.reduceAdd, Int.reduceEq, Int.reduceLE, Int.reduceLT, Int.reduceMul, Int.reduceNeg, Int.reducePow, Int.reduceSub, Int.reduceToNat, Nat.reduceAdd, Nat.reduceEqDiff, Nat.reduceLT, Nat.reduceLeDiff, Nat.reduceMul, reduceCtorEq]
  have q4 : ρ 4 = .slice (some ⟨w.heap.size, 0, none⟩) N N := by rw [hf 4 rfl]; simp (disch := omega) only [EO, ↓EP, EQ, EM, ↓reduceIte, Int.reduceAdd, Int.reduceEq, Int.reduceLE, Int.reduceLT, Int.reduceMul, Int.reduceNeg, Int.reducePow, Int.reduceSub, Int.reduceToNat, Nat.reduceAdd, Nat.reduceEqDiff, Nat.reduceLT, Nat.reduceLeDiff, Nat.reduceMul, reduceCtorEq, eN]
  have q15 : ρ 15 = .int .i64 l.length := by rw [hf 15 rfl]; simp (disch := omega) only [EO, ↓EP, EQ, EM, ↓reduceIte, Int.reduceAdd, Int.reduceEq, Int.reduceLE, Int.reduceLT, Int.reduceMul, Int.reduceNeg, Int.reducePow, Int.reduceSub, Int.reduceToNat, Nat.reduceAdd, Nat.reduceEqDiff, Nat.reduceLT, Nat.reduceLeDiff, Nat.reduceMul, reduceCtorEq]
  clear hf
  by_cases hkl : (k : Int) < (l.length : Int)
  · obtain ⟨p, rfl, _, hp⟩ := (hr.nb f2).get (by rw [nums_length]; omega)
    have cp := hp.numN (j := l.length - 1 - k) (by omega)
    have co := hB.numN (j := k / 4) (by omega)
    have bx := hL.at (l.length - 1 - k : Nat)
    have bo := hO.at (k / 4 : Nat)
    have ei : ((k : Int) / 4).toNat = k / 4 := by omega
    have ej : ((l.length : Int) - 1 - (k : Int)).toNat = l.length - 1 - k := by omega
    obtain ⟨s, hs⟩ : ∃ s : Nat, s = 8 * (k % 4) := ⟨_, rfl⟩
    have em : min (8 * ((k : Int) % 4)).toNat 32 = s := by omega
    have hp2 : (0 : Int) < 2 ^ s := p2_pos s
    have h24 : (2 : Int) ^ s ≤ 2 ^ 24 := p2_mono (by omega)
    have e24 : (2 : Int) ^ 24 = 16777216 := rfl
    have hx0 := Int.mul_nonneg bx.1 (show (0 : Int) ≤ 2 ^ s by omega)
    have hx1 : at' l (l.length - 1 - k : Nat) * 2 ^ s + 2 ^ s ≤ 4294967296 := by
      have := Int.mul_le_mul (show at' l (l.length - 1 - k : Nat) + 1 ≤ 256 by omega) (show (2 : Int) ^ s ≤ 16777216 by omega) (by omega) (by omega)
      grind
    have hk256 : (256 : Int) ^ k = pw (k / 4) * 2 ^ s := by
      rw [p8_pw, show (2 : Int) ^ s = 256 ^ (k % 4) by rw [p8_p2, hs], ← p8_add]; congr 1; omega
    have hlow : at' o (k / 4 : Nat) < 2 ^ s := by
      have hb := leb_bd (hL.rev.take k)
      rw [← hv, List.length_take, List.length_reverse, Nat.min_eq_left hk, hk256] at hb
      have h1 := val_split o (k := k / 4) (by omega)
      have h2 := (val_bd (hO.take (k / 4))).1
      have h3 : val (o.drop (k / 4)) * pw (k / 4) < 2 ^ s * pw (k / 4) := by
        have e1 : val (o.drop (k / 4)) * pw (k / 4) = pw (k / 4) * val (o.drop (k / 4)) := Int.mul_comm _ _
        have e2 : 2 ^ s * pw (k / 4) = pw (k / 4) * 2 ^ s := Int.mul_comm _ _
        omega
      have h4 := lt_of_mul h3 (by have := pw_pos (k / 4); omega)
      have h5 := val_drop_at o (k := k / 4) (by omega)
      have h6 := (val_bd (hO.drop (k / 4 + 1))).1
      omega
    have eor := or32_add bo.1 hlow bx.1 (by omega)
    simp (disch := omega) only [wu64, wu32, wu8, fdiv_nn, EO, ↓EP, EQ, EM, ↓reduceIte, Int.reduceAdd, Int.reduceEq, Int.reduceLE, Int.reduceLT, Int.reduceMul, Int.reduceNeg, Int.reducePow, Int.reduceSub, Int.reduceToNat, Nat.reduceAdd, Nat.reduceEqDiff, Nat.reduceLT, Nat.reduceLeDiff, Nat.reduceMul, reduceCtorEq, h16, q0, q4, q15, cp, co, ei, ej, em, eor]
    intro m1
    refine st_num (hB.nb (Fr.drewN w2 _ nob)) (by omega) fun w4 p4 => ?_
    simp (disch := omega) only [wu64, wu32, wu8, fdiv_nn, EO, ↓EP, EQ, EM, ↓reduceIte, Int.reduceAdd, Int.reduceEq, Int.reduceLE, Int.reduceLT, Int.reduceMul, Int.reduceNeg, Int.reducePow, Int.reduceSub, Int.reduceToNat, Nat.reduceAdd, Nat.reduceEqDiff, Nat.reduceLT, Nat.reduceLeDiff, Nat.reduceMul, reduceCtorEq, h16]
    refine hM (l.length - (k + 1)) _ _ (by omega) ⟨k + 1, _, by simp (disch := omega) only [EO, ↓EP, EQ, EM, ↓reduceIte, Int.reduceAdd, Int.reduceEq, Int.reduceLE, Int.reduceLT, Int.reduceMul, Int.reduceNeg, Int.reducePow, Int.reduceSub, Int.reduceToNat, Nat.reduceAdd, Nat.reduceEqDiff, Nat.reduceLT, Nat.reduceLeDiff, Nat.reduceMul, reduceCtorEq, h16, Int.natCast_add], by omega, rfl, p4.blk, by simpa using ho, hO.set _ (by omega) (by omega), ?_, (f2.nb (Fr.drewN w2 _ nob)).own p4.fr fun x e => by omega⟩
    rw [val_set (by omega), leb_take_succ (by simpa using hkl), at_rev (by omega), hv, hk256]
    grind
  · have hk : k = l.length := by omega
    subst hk
    simp (disch := omega) only [EO, ↓EP, EQ, EM, ↓reduceIte, Int.reduceAdd, Int.reduceEq, Int.reduceLE, Int.reduceLT, Int.reduceMul, Int.reduceNeg, Int.reducePow, Int.reduceSub, Int.reduceToNat, Nat.reduceAdd, Nat.reduceEqDiff, Nat.reduceLT, Nat.reduceLeDiff, Nat.reduceMul, reduceCtorEq, h16, q4, q15]
    rw [List.take_of_length_le (by simp)] at hv
    refine cut_spec ho (blk_rd hB) hO (Nat.le_refl _) (by omega) _ fun m hm he _ => ?_
    rw [hv] at he
    simp (disch := omega) only [EO, ↓EP, EQ, EM, ↓reduceIte, Int.reduceAdd, Int.reduceEq, Int.reduceLE, Int.reduceLT, Int.reduceMul, Int.reduceNeg, Int.reducePow, Int.reduceSub, Int.reduceToNat, Nat.reduceAdd, Nat.reduceEqDiff, Nat.reduceLT, Nat.reduceLeDiff, Nat.reduceMul, reduceCtorEq]
    exact hK _ _ (own_cut hB (Nat.le_refl _) f2 ho hm he)
end Go.Proofs.YtcflokckfjkdpaaDoor.Spec
