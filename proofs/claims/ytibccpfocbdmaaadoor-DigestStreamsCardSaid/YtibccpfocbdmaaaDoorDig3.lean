/- The digests: the mixing by words of 32 bits. -/
import Derived.Test.YtibccpfocbdmaaaDoorDig2
set_option linter.unusedVariables false
set_option linter.unusedSimpArgs false
namespace Go.Proofs.YtibccpfocbdmaaaDoor.Spec
open Go Go.RowKit Go.Proofs Go.Proofs.YtibccpfocbdmaaaDoor.Eng Go.Proofs.YtibccpfocbdmaaaDoor.Code
set_option maxRecDepth 100000

def k256 : List Int := [1116352408, 1899447441, 3049323471, 3921009573, 961987163, 1508970993, 2453635748, 2870763221, 3624381080, 310598401, 607225278, 1426881987, 1925078388, 2162078206, 2614888103, 3248222580, 3835390401, 4022224774, 264347078, 604807628, 770255983, 1249150122, 1555081692, 1996064986, 2554220882, 2821834349, 2952996808, 3210313671, 3336571891, 3584528711, 113926993, 338241895, 666307205, 773529912, 1294757372, 1396182291, 1695183700, 1986661051, 2177026350, 2456956037, 2730485921, 2820302411, 3259730800, 3345764771, 3516065817, 3600352804, 4094571909, 275423344, 430227734, 506948616, 659060556, 883997877, 958139571, 1322822218, 1537002063, 1747873779, 1955562222, 2024104815, 2227730452, 2361852424, 2428436474, 2756734187, 3204031479, 3329325298]
theorem k256_len : k256.length = 64 := rfl
attribute [irreducible] k256
structure S32 where
  w : List Int
  s : List Int
def twoW (t : Nat) (w : List Int) : List Int :=
  if (t : Int) < 16 then w else w.set ((t : Int) % 16).toNat (s32 (at' w ((t : Int) % 16)) (s32 (s32 (tn32 (at' w ((((t : Int) % 16) + 14) % 16)) 17 19 10 true) (at' w ((((t : Int) % 16) + 9) % 16))) (tn32 (at' w ((((t : Int) % 16) + 1) % 16)) 7 18 3 true)))
def twoX (t : Nat) (w s : List Int) : Int := s32 (s32 (s32 (s32 (at' s 7) (tn32 (at' s 4) 6 11 25 false)) (x32 (at' s 6) (a32 (at' s 4) (x32 (at' s 5) (at' s 6))))) (at' k256 t)) (at' w ((t : Int) % 16))
def twoY (s : List Int) : Int := s32 (tn32 (at' s 0) 2 13 22 false) (o32 (a32 (at' s 0) (at' s 1)) (a32 (at' s 2) (o32 (at' s 0) (at' s 1))))
def twoS (x y : Int) (s : List Int) : List Int := [s32 x y, at' s 0, at' s 1, at' s 2, s32 (at' s 3) x, at' s 4, at' s 5, at' s 6]
def twoStep (t : Nat) (q : S32) : S32 := ⟨twoW t q.w, twoS (twoX t (twoW t q.w) q.s) (twoY q.s) q.s⟩
def twoInit (h p : List Int) : S32 := ⟨words p, h⟩
def twoAdd (h : List Int) (i : Nat) (s : List Int) : List Int := s.set i (s32 (at' s i) (at' h i))
def two (h p : List Int) : List Int := rounds (twoAdd h) 8 (rounds twoStep 64 (twoInit h p)).s
theorem twoW_len (t : Nat) (w : List Int) : (twoW t w).length = w.length := by
  unfold twoW; split <;> simp
theorem two_wlen (s : S32) : ∀ n, (rounds twoStep n s).w.length = s.w.length
  | 0 => rfl
  | n + 1 => by rw [rounds, twoStep, twoW_len, two_wlen s n]
theorem two_slen (s : S32) (h : s.s.length = 8) : ∀ n, (rounds twoStep n s).s.length = 8
  | 0 => h
  | n + 1 => rfl
theorem two_alen (h s : List Int) (k : Nat) : (rounds (twoAdd h) k s).length = s.length := rounds_len _ (fun n l => by simp [twoAdd]) _ _
theorem two_len (h p : List Int) (hh : h.length = 8) : (two h p).length = 8 := by unfold two; rw [two_alen, two_slen _ hh]
theorem twoInit_0 (h p : List Int) : rounds twoStep 0 (twoInit h p) = ⟨words p, h⟩ := rfl

set_option maxHeartbeats 2000000 in
theorem two_spec (h p : List Int) (hh : h.length = 8) (hp : p.length = 64) (A : Option Addr) (cap : Nat) (w : World) (hr : Rd w A (nums .u8 p)) (hT : cellsAt w ⟨0, 0, none⟩ (nums .u32 k256)) (hg : 0 < w.heap.size) (K : Value → World → Prop)
    (hK : ∀ w', Below w.heap.size w w' → K (.agg (nums .u32 (two h p)).toArray) w') : callK Tryd.prog 34 [.agg (nums .u32 h).toArray, .slice A 64 cap] w K := by
  refine call_of Tryd.func34 Code.h34 (by simp [Code.c34]) ?_
  simp only [Code.c34, ↓EP, EQ, EM, ↓reduceIte, Int.reduceAdd, Int.reduceEq, Int.reduceLE, Int.reduceLT, Int.reduceMul, Int.reduceNeg, Int.reducePow, Int.reduceSub, Int.reduceToNat, Nat.reduceAdd, Nat.reduceEqDiff, Nat.reduceLT, Nat.reduceLeDiff, Nat.reduceMul, reduceCtorEq]
  refine al_k (nums .u32 h) rfl fun w1 n1 => ?_
  simp only [↓EP, EQ, EM, ↓reduceIte, Int.reduceAdd, Int.reduceEq, Int.reduceLE, Int.reduceLT, Int.reduceMul, Int.reduceNeg, Int.reducePow, Int.reduceSub, Int.reduceToNat, Nat.reduceAdd, Nat.reduceEqDiff, Nat.reduceLT, Nat.reduceLeDiff, Nat.reduceMul, reduceCtorEq]
  refine al_k (nums .u32 (zs 8)) rfl fun w2 n2 => ?_
  simp only [↓EP, EQ, EM, ↓reduceIte, Int.reduceAdd, Int.reduceEq, Int.reduceLE, Int.reduceLT, Int.reduceMul, Int.reduceNeg, Int.reducePow, Int.reduceSub, Int.reduceToNat, Nat.reduceAdd, Nat.reduceEqDiff, Nat.reduceLT, Nat.reduceLeDiff, Nat.reduceMul, reduceCtorEq]
  have s1 := n1.size
  have s2 := n2.size
  have hb2 : Below w.heap.size w w2 := n2.below (by omega) (n1.below (Nat.le_refl _) (Below.refl _ _))
  have hH := n2.keep n1.blk
  have hZ := n2.blk
  rw [s1] at hZ
  refine words_spec A cap p hp w2 (n2.rd (n1.rd hr)) _ ?_
  intro w3 hb3
  simp only [↓EP, EQ, EM, ↓reduceIte, Int.reduceAdd, Int.reduceEq, Int.reduceLE, Int.reduceLT, Int.reduceMul, Int.reduceNeg, Int.reducePow, Int.reduceSub, Int.reduceToNat, Nat.reduceAdd, Nat.reduceEqDiff, Nat.reduceLT, Nat.reduceLeDiff, Nat.reduceMul, reduceCtorEq]
  refine al_k (nums .u32 (zs 16)) rfl fun w4 n4 => ?_
  simp only [↓EP, EQ, EM, ↓reduceIte, Int.reduceAdd, Int.reduceEq, Int.reduceLE, Int.reduceLT, Int.reduceMul, Int.reduceNeg, Int.reducePow, Int.reduceSub, Int.reduceToNat, Nat.reduceAdd, Nat.reduceEqDiff, Nat.reduceLT, Nat.reduceLeDiff, Nat.reduceMul, reduceCtorEq]
  have s3 := hb3.size
  have s4 := n4.size
  have hwl : (nums .u32 (words p)).length = 16 := by rw [nums_length]; exact words_len p
  refine st_whole n4.blk hwl rfl (nums_one _ _) fun w5 p5 => ?_
  simp only [↓EP, EQ, EM, ↓reduceIte, Int.reduceAdd, Int.reduceEq, Int.reduceLE, Int.reduceLT, Int.reduceMul, Int.reduceNeg, Int.reducePow, Int.reduceSub, Int.reduceToNat, Nat.reduceAdd, Nat.reduceEqDiff, Nat.reduceLT, Nat.reduceLeDiff, Nat.reduceMul, reduceCtorEq]
  have s5 := p5.size
  generalize hbw : w3.heap.size = bW at *
  have hW := p5.blk
  have hH := p5.keep (by omega) (n4.keep (hH.below hb3 (by omega)))
  have hZ := p5.keep (by omega) (n4.keep (hZ.below hb3 (by omega)))
  have hb5 : Below w.heap.size w w5 := p5.below (by omega) (n4.below (by omega) (hb2.trans (hb3.mono (by omega))))
  refine hH.ldAgg (by rw [nums_length]; exact hh) ?_
  simp only [↓EP, EQ, EM, ↓reduceIte, Int.reduceAdd, Int.reduceEq, Int.reduceLE, Int.reduceLT, Int.reduceMul, Int.reduceNeg, Int.reducePow, Int.reduceSub, Int.reduceToNat, Nat.reduceAdd, Nat.reduceEqDiff, Nat.reduceLT, Nat.reduceLeDiff, Nat.reduceMul, reduceCtorEq]
  refine al_k (nums .u32 (zs 8)) rfl fun w6 n6 => ?_
  simp only [↓EP, EQ, EM, ↓reduceIte, Int.reduceAdd, Int.reduceEq, Int.reduceLE, Int.reduceLT, Int.reduceMul, Int.reduceNeg, Int.reducePow, Int.reduceSub, Int.reduceToNat, Nat.reduceAdd, Nat.reduceEqDiff, Nat.reduceLT, Nat.reduceLeDiff, Nat.reduceMul, reduceCtorEq]
  have s6 := n6.size
  refine st_whole n6.blk (by rw [nums_length]; exact hh) rfl (nums_one _ _) fun w7 p7 => ?_
  simp only [↓EP, EQ, EM, ↓reduceIte, Int.reduceAdd, Int.reduceEq, Int.reduceLE, Int.reduceLT, Int.reduceMul, Int.reduceNeg, Int.reducePow, Int.reduceSub, Int.reduceToNat, Nat.reduceAdd, Nat.reduceEqDiff, Nat.reduceLT, Nat.reduceLeDiff, Nat.reduceMul, reduceCtorEq]
  have s7 := p7.size
  have ltW := hW.lt
  generalize hbs : w5.heap.size = bS at *
  have hS := p7.blk
  have hH := p7.keep (by omega) (n6.keep hH)
  have hZ := p7.keep (by omega) (n6.keep hZ)
  have hW := p7.keep (by omega) (n6.keep hW)
  have hb7 : Below w.heap.size w w7 := p7.below (by omega) (n6.below (by omega) hb5)
  refine loop_inv (fun m ρ w' => ∃ k : Nat, ρ 15 = .int .i64 k ∧ k ≤ 64 ∧ m = 64 - k ∧ Blk w' w.heap.size (nums .u32 h) ∧ Blk w' (w.heap.size + 1) (nums .u32 (zs 8)) ∧ Blk w' bW (nums .u32 (rounds twoStep k (twoInit h p)).w) ∧ Blk w' bS (nums .u32 (rounds twoStep k (twoInit h p)).s) ∧ Below w.heap.size w w') 64 ?_ ?_
  · exact ⟨0, by simp only [↓EP, EQ, EM, ↓reduceIte, Int.reduceAdd, Int.reduceEq, Int.reduceLE, Int.reduceLT, Int.reduceMul, Int.reduceNeg, Int.reducePow, Int.reduceSub, Int.reduceToNat, Nat.reduceAdd, Nat.reduceEqDiff, Nat.reduceLT, Nat.reduceLeDiff, Nat.reduceMul, reduceCtorEq], by omega, by omega, hH, hZ, hW, hS, hb7⟩
  rintro m ρ' w' hf ⟨k, hrg, hk, rfl, hH, hZ, hW, hS, hb⟩ N hN
  have r2 : ρ' 2 = .pointer (some ⟨w.heap.size, 0, none⟩) := by rw [hf 2 rfl]; simp only [↓EP, EQ, EM, ↓reduceIte, Int.reduceAdd, Int.reduceEq, Int.reduceLE, Int.reduceLT, Int.reduceMul, Int.reduceNeg, Int.reducePow, Int.reduceSub, Int.reduceToNat, Nat.reduceAdd, Nat.reduceEqDiff, Nat.reduceLT, Nat.reduceLeDiff, Nat.reduceMul, reduceCtorEq]
  have r4 : ρ' 4 = .pointer (some ⟨w.heap.size + 1, 0, none⟩) := by rw [hf 4 rfl]; simp only [↓EP, EQ, EM, ↓reduceIte, Int.reduceAdd, Int.reduceEq, Int.reduceLE, Int.reduceLT, Int.reduceMul, Int.reduceNeg, Int.reducePow, Int.reduceSub, Int.reduceToNat, Nat.reduceAdd, Nat.reduceEqDiff, Nat.reduceLT, Nat.reduceLeDiff, Nat.reduceMul, reduceCtorEq, s1]
  have r5 : ρ' 5 = .pointer (some ⟨bW, 0, none⟩) := by rw [hf 5 rfl]; simp only [↓EP, EQ, EM, ↓reduceIte, Int.reduceAdd, Int.reduceEq, Int.reduceLE, Int.reduceLT, Int.reduceMul, Int.reduceNeg, Int.reducePow, Int.reduceSub, Int.reduceToNat, Nat.reduceAdd, Nat.reduceEqDiff, Nat.reduceLT, Nat.reduceLeDiff, Nat.reduceMul, reduceCtorEq, hbw]
  have r6 : ρ' 6 = .pointer (some ⟨bS, 0, none⟩) := by rw [hf 6 rfl]; simp only [↓EP, EQ, EM, ↓reduceIte, Int.reduceAdd, Int.reduceEq, Int.reduceLE, Int.reduceLT, Int.reduceMul, Int.reduceNeg, Int.reducePow, Int.reduceSub, Int.reduceToNat, Nat.reduceAdd, Nat.reduceEqDiff, Nat.reduceLT, Nat.reduceLeDiff, Nat.reduceMul, reduceCtorEq, hbs]
  have hwl : (rounds twoStep k (twoInit h p)).w.length = 16 := by rw [two_wlen]; exact words_len p
  have hsl : (rounds twoStep k (twoInit h p)).s.length = 8 := two_slen _ hh k
  have hT' := hT.below hg hb
  have htl := k256_len
  have hct := fun (j : Nat) (g : j < 64) => hT'.numN (by omega : j < k256.length)
  have hct' : ∀ j : Nat, j < 64 → w'.cell? ⟨0, j, none⟩ = some (.int .u32 (at' k256 j)) := fun j g => by have := hct j g; rwa [Addr.add_lit, Nat.zero_add] at this
  clear hf
  generalize hst : rounds twoStep k (twoInit h p) = st at *
  have hcs := fun (j : Nat) (g : j < 8) => hS.numN (by omega : j < st.s.length)
  by_cases hlt : (k : Int) < 64
  · have fin : ∀ (w6 : World) (ρ6 : Env), ρ6 15 = .int .i64 ((k + 1 : Nat) : Int) →
        Blk w6 w.heap.size (nums .u32 h) → Blk w6 (w.heap.size + 1) (nums .u32 (zs 8)) → Blk w6 bW (nums .u32 (twoStep k st).w) → Blk w6 bS (nums .u32 (twoStep k st).s) → Below w.heap.size w w6 → endK N ρ6 w6 := by
      intro w6 ρ6 g1 g2 g3 g4 g5 g6
      refine hN (64 - (k + 1)) _ _ (by omega) ⟨k + 1, g1, by omega, rfl, ?_⟩
      rw [rounds, hst]
      exact ⟨g2, g3, g4, g5, g6⟩
    simp only [twoStep] at fin
    generalize hw7 : twoW k st.w = W at fin
    by_cases h16 : (k : Int) < 16
    · rw [twoW, if_pos h16] at hw7
      subst hw7
      generalize hw8 : st.w = W at *
      have hcw := fun (j : Nat) (g : j < 16) => hW.numN (by omega : j < W.length)
      simp (disch := omega) only [EO, ↓EP, EQ, EM, ↓reduceIte, Int.reduceAdd, Int.reduceEq, Int.reduceLE, Int.reduceLT, Int.reduceMul, Int.reduceNeg, Int.reducePow, Int.reduceSub, Int.reduceToNat, Nat.reduceAdd, Nat.reduceEqDiff, Nat.reduceLT, Nat.reduceLeDiff, Nat.reduceMul, reduceCtorEq, W_join, hrg, r2, r4, r5, r6, hcw, hcs, hct']
      refine turns_q _ 6 11 25 false (by omega) (by omega) (by omega) (by omega) (by omega) (by omega) _ _ ?_
      simp (disch := omega) only [EO, ↓EP, EQ, EM, ↓reduceIte, Int.reduceAdd, Int.reduceEq, Int.reduceLE, Int.reduceLT, Int.reduceMul, Int.reduceNeg, Int.reducePow, Int.reduceSub, Int.reduceToNat, Nat.reduceAdd, Nat.reduceEqDiff, Nat.reduceLT, Nat.reduceLeDiff, Nat.reduceMul, reduceCtorEq, hrg, r2, r4, r5, r6, hcw, hcs, hct']
      intro m1
      refine turns_q _ 2 13 22 false (by omega) (by omega) (by omega) (by omega) (by omega) (by omega) _ _ ?_
      simp (disch := omega) only [EO, ↓EP, EQ, EM, ↓reduceIte, Int.reduceAdd, Int.reduceEq, Int.reduceLE, Int.reduceLT, Int.reduceMul, Int.reduceNeg, Int.reducePow, Int.reduceSub, Int.reduceToNat, Nat.reduceAdd, Nat.reduceEqDiff, Nat.reduceLT, Nat.reduceLeDiff, Nat.reduceMul, reduceCtorEq, hrg, r2, r4, r5, r6, hcw, hcs, hct']
      intro m2
      have hfill : fillL [(0, 1), (1, 1), (2, 1), (3, 1), (4, 1), (5, 1), (6, 1), (7, 1)] (Array.replicate 8 (Value.int IntKind.u32 0)) [(0, Value.int IntKind.u32 (s32 (twoX k W st.s) (twoY st.s))), (1, Value.int IntKind.u32 (at' st.s 0)), (2, Value.int IntKind.u32 (at' st.s 1)), (3, Value.int IntKind.u32 (at' st.s 2)), (4, Value.int IntKind.u32 (s32 (at' st.s 3) (twoX k W st.s))), (5, Value.int IntKind.u32 (at' st.s 4)), (6, Value.int IntKind.u32 (at' st.s 5)), (7, Value.int IntKind.u32 (at' st.s 6))] = some (nums .u32 (twoS (twoX k W st.s) (twoY st.s) st.s)).toArray := fill8 _ _ _ _ _ _ _ _ _
      refine ⟨_, hfill, ?_⟩
      simp (disch := omega) only [EO, ↓EP, EQ, EM, ↓reduceIte, Int.reduceAdd, Int.reduceEq, Int.reduceLE, Int.reduceLT, Int.reduceMul, Int.reduceNeg, Int.reducePow, Int.reduceSub, Int.reduceToNat, Nat.reduceAdd, Nat.reduceEqDiff, Nat.reduceLT, Nat.reduceLeDiff, Nat.reduceMul, reduceCtorEq, hrg, r2, r4, r5, r6, hcw, hcs, hct']
      refine st_whole (hS.drewN _) (by rw [nums_length]; rfl) (by rw [nums_length]; exact hsl) (nums_one _ _) fun w9 p9 => ?_
      simp (disch := omega) only [EO, ↓EP, EQ, EM, ↓reduceIte, Int.reduceAdd, Int.reduceEq, Int.reduceLE, Int.reduceLT, Int.reduceMul, Int.reduceNeg, Int.reducePow, Int.reduceSub, Int.reduceToNat, Nat.reduceAdd, Nat.reduceEqDiff, Nat.reduceLT, Nat.reduceLeDiff, Nat.reduceMul, reduceCtorEq, hrg, r2, r4, r5, r6, hcw, hcs, hct']
      exact fin _ _ (by simp (disch := omega) only [EO, ↓EP, EQ, EM, ↓reduceIte, Int.reduceAdd, Int.reduceEq, Int.reduceLE, Int.reduceLT, Int.reduceMul, Int.reduceNeg, Int.reducePow, Int.reduceSub, Int.reduceToNat, Nat.reduceAdd, Nat.reduceEqDiff, Nat.reduceLT, Nat.reduceLeDiff, Nat.reduceMul, reduceCtorEq, hrg, r2, r4, r5, r6, hcw, hcs, hct', Int.natCast_add]) (p9.keep (by omega) hH) (p9.keep (by omega) hZ) (p9.keep (by omega) hW) p9.blk (p9.below (by omega) (below_drewN' hb _))
    · rw [twoW, if_neg h16] at hw7
      have hcw := fun (j : Nat) (g : j < 16) => hW.numN (by omega : j < st.w.length)
      simp (disch := omega) only [EO, ↓EP, EQ, EM, ↓reduceIte, Int.reduceAdd, Int.reduceEq, Int.reduceLE, Int.reduceLT, Int.reduceMul, Int.reduceNeg, Int.reducePow, Int.reduceSub, Int.reduceToNat, Nat.reduceAdd, Nat.reduceEqDiff, Nat.reduceLT, Nat.reduceLeDiff, Nat.reduceMul, reduceCtorEq, W_join, hrg, r2, r4, r5, r6, hcw, hcs, hct']
      refine turns_q _ 17 19 10 true (by omega) (by omega) (by omega) (by omega) (by omega) (by omega) _ _ ?_
      simp (disch := omega) only [EO, ↓EP, EQ, EM, ↓reduceIte, Int.reduceAdd, Int.reduceEq, Int.reduceLE, Int.reduceLT, Int.reduceMul, Int.reduceNeg, Int.reducePow, Int.reduceSub, Int.reduceToNat, Nat.reduceAdd, Nat.reduceEqDiff, Nat.reduceLT, Nat.reduceLeDiff, Nat.reduceMul, reduceCtorEq, hrg, r2, r4, r5, r6, hcw, hcs, hct']
      refine turns_q _ 7 18 3 true (by omega) (by omega) (by omega) (by omega) (by omega) (by omega) _ _ ?_
      simp (disch := omega) only [EO, ↓EP, EQ, EM, ↓reduceIte, Int.reduceAdd, Int.reduceEq, Int.reduceLE, Int.reduceLT, Int.reduceMul, Int.reduceNeg, Int.reducePow, Int.reduceSub, Int.reduceToNat, Nat.reduceAdd, Nat.reduceEqDiff, Nat.reduceLT, Nat.reduceLeDiff, Nat.reduceMul, reduceCtorEq, hrg, r2, r4, r5, r6, hcw, hcs, hct']
      intro m0
      refine st_num (hW.drewN m0) (by rw [hwl]; omega) fun w8 p8 => ?_
      have hw7 : st.w.set ((k : Int) % 16).toNat (s32 (at' st.w ((k : Int) % 16)) (s32 (s32 (tn32 (at' st.w ((((k : Int) % 16) + 14) % 16)) 17 19 10 true) (at' st.w ((((k : Int) % 16) + 9) % 16))) (tn32 (at' st.w ((((k : Int) % 16) + 1) % 16)) 7 18 3 true))) = W := hw7
      have p8 : Put (w'.drewN m0) w8 bW (nums .u32 W) := by rw [← hw7]; exact p8
      have hWl : W.length = 16 := by subst hw7; simp [hwl]
      have hcW := fun (j : Nat) (g : j < 16) => p8.blk.numN (by omega : j < W.length)
      have hH := p8.keep (by omega) (hH.drewN m0)
      have hZ := p8.keep (by omega) (hZ.drewN m0)
      have hS := p8.keep (by omega) (hS.drewN m0)
      have hcs' := fun (j : Nat) (g : j < 8) => hS.numN (by omega : j < st.s.length)
      have hb := p8.below (by omega) (below_drewN' hb m0)
      have hT' := hT.below hg hb
      have hct := fun (j : Nat) (g : j < 64) => hT'.numN (by omega : j < k256.length)
      have hct' : ∀ j : Nat, j < 64 → w8.cell? ⟨0, j, none⟩ = some (.int .u32 (at' k256 j)) := fun j g => by have := hct j g; rwa [Addr.add_lit, Nat.zero_add] at this
      clear hcw hw7 hcs
      simp (disch := omega) only [EO, ↓EP, EQ, EM, ↓reduceIte, Int.reduceAdd, Int.reduceEq, Int.reduceLE, Int.reduceLT, Int.reduceMul, Int.reduceNeg, Int.reducePow, Int.reduceSub, Int.reduceToNat, Nat.reduceAdd, Nat.reduceEqDiff, Nat.reduceLT, Nat.reduceLeDiff, Nat.reduceMul, reduceCtorEq, hrg, r2, r4, r5, r6, hcW, hcs', hct']
      refine turns_q _ 6 11 25 false (by omega) (by omega) (by omega) (by omega) (by omega) (by omega) _ _ ?_
      simp (disch := omega) only [EO, ↓EP, EQ, EM, ↓reduceIte, Int.reduceAdd, Int.reduceEq, Int.reduceLE, Int.reduceLT, Int.reduceMul, Int.reduceNeg, Int.reducePow, Int.reduceSub, Int.reduceToNat, Nat.reduceAdd, Nat.reduceEqDiff, Nat.reduceLT, Nat.reduceLeDiff, Nat.reduceMul, reduceCtorEq, hrg, r2, r4, r5, r6, hcW, hcs', hct']
      intro m1
      refine turns_q _ 2 13 22 false (by omega) (by omega) (by omega) (by omega) (by omega) (by omega) _ _ ?_
      simp (disch := omega) only [EO, ↓EP, EQ, EM, ↓reduceIte, Int.reduceAdd, Int.reduceEq, Int.reduceLE, Int.reduceLT, Int.reduceMul, Int.reduceNeg, Int.reducePow, Int.reduceSub, Int.reduceToNat, Nat.reduceAdd, Nat.reduceEqDiff, Nat.reduceLT, Nat.reduceLeDiff, Nat.reduceMul, reduceCtorEq, hrg, r2, r4, r5, r6, hcW, hcs', hct']
      intro m2
      have hfill : fillL [(0, 1), (1, 1), (2, 1), (3, 1), (4, 1), (5, 1), (6, 1), (7, 1)] (Array.replicate 8 (Value.int IntKind.u32 0)) [(0, Value.int IntKind.u32 (s32 (twoX k W st.s) (twoY st.s))), (1, Value.int IntKind.u32 (at' st.s 0)), (2, Value.int IntKind.u32 (at' st.s 1)), (3, Value.int IntKind.u32 (at' st.s 2)), (4, Value.int IntKind.u32 (s32 (at' st.s 3) (twoX k W st.s))), (5, Value.int IntKind.u32 (at' st.s 4)), (6, Value.int IntKind.u32 (at' st.s 5)), (7, Value.int IntKind.u32 (at' st.s 6))] = some (nums .u32 (twoS (twoX k W st.s) (twoY st.s) st.s)).toArray := fill8 _ _ _ _ _ _ _ _ _
      refine ⟨_, hfill, ?_⟩
      simp (disch := omega) only [EO, ↓EP, EQ, EM, ↓reduceIte, Int.reduceAdd, Int.reduceEq, Int.reduceLE, Int.reduceLT, Int.reduceMul, Int.reduceNeg, Int.reducePow, Int.reduceSub, Int.reduceToNat, Nat.reduceAdd, Nat.reduceEqDiff, Nat.reduceLT, Nat.reduceLeDiff, Nat.reduceMul, reduceCtorEq, hrg, r2, r4, r5, r6, hcW, hcs', hct']
      refine st_whole (hS.drewN _) (by rw [nums_length]; rfl) (by rw [nums_length]; exact hsl) (nums_one _ _) fun w9 p9 => ?_
      simp (disch := omega) only [EO, ↓EP, EQ, EM, ↓reduceIte, Int.reduceAdd, Int.reduceEq, Int.reduceLE, Int.reduceLT, Int.reduceMul, Int.reduceNeg, Int.reducePow, Int.reduceSub, Int.reduceToNat, Nat.reduceAdd, Nat.reduceEqDiff, Nat.reduceLT, Nat.reduceLeDiff, Nat.reduceMul, reduceCtorEq, hrg, r2, r4, r5, r6, hcW, hcs', hct']
      exact fin _ _ (by simp (disch := omega) only [EO, ↓EP, EQ, EM, ↓reduceIte, Int.reduceAdd, Int.reduceEq, Int.reduceLE, Int.reduceLT, Int.reduceMul, Int.reduceNeg, Int.reducePow, Int.reduceSub, Int.reduceToNat, Nat.reduceAdd, Nat.reduceEqDiff, Nat.reduceLT, Nat.reduceLeDiff, Nat.reduceMul, reduceCtorEq, hrg, r2, r4, r5, r6, hcW, hcs', hct', Int.natCast_add]) (p9.keep (by omega) hH) (p9.keep (by omega) hZ) (p9.keep (by omega) p8.blk) p9.blk (p9.below (by omega) (below_drewN' hb _))
  have hkR : k = 64 := by omega
  subst hkR
  have e1 : st.s = (rounds twoStep 64 (twoInit h p)).s := by rw [hst]
  rw [e1] at hS hcs hsl
  simp (disch := omega) only [EO, ↓EP, EQ, EM, ↓reduceIte, Int.reduceAdd, Int.reduceEq, Int.reduceLE, Int.reduceLT, Int.reduceMul, Int.reduceNeg, Int.reducePow, Int.reduceSub, Int.reduceToNat, Nat.reduceAdd, Nat.reduceEqDiff, Nat.reduceLT, Nat.reduceLeDiff, Nat.reduceMul, reduceCtorEq, hrg, r2, r4, r5, r6]
  clear hN hst e1 hcs hW hct hct' hT'
  refine loop_inv (fun m ρ w' => ∃ k : Nat, ρ 111 = .int .i64 k ∧ k ≤ 8 ∧ m = 8 - k ∧ Blk w' w.heap.size (nums .u32 h) ∧ Blk w' (w.heap.size + 1) (nums .u32 (zs 8)) ∧ Blk w' bS (nums .u32 (rounds (twoAdd h) k (rounds twoStep 64 (twoInit h p)).s)) ∧ Below w.heap.size w w') 8 ?_ ?_
  · exact ⟨0, by simp only [↓EP, EQ, EM, ↓reduceIte, Int.reduceAdd, Int.reduceEq, Int.reduceLE, Int.reduceLT, Int.reduceMul, Int.reduceNeg, Int.reducePow, Int.reduceSub, Int.reduceToNat, Nat.reduceAdd, Nat.reduceEqDiff, Nat.reduceLT, Nat.reduceLeDiff, Nat.reduceMul, reduceCtorEq], by omega, by omega, hH, hZ, hS, hb⟩
  rintro m ρ2 w8 hf ⟨k, hrg2, hk, rfl, hH, hZ, hS, hb⟩ N hN
  have r2 : ρ2 2 = .pointer (some ⟨w.heap.size, 0, none⟩) := by rw [hf 2 rfl]; simp only [↓EP, EQ, EM, ↓reduceIte, Int.reduceAdd, Int.reduceEq, Int.reduceLE, Int.reduceLT, Int.reduceMul, Int.reduceNeg, Int.reducePow, Int.reduceSub, Int.reduceToNat, Nat.reduceAdd, Nat.reduceEqDiff, Nat.reduceLT, Nat.reduceLeDiff, Nat.reduceMul, reduceCtorEq, r2]
  have r4 : ρ2 4 = .pointer (some ⟨w.heap.size + 1, 0, none⟩) := by rw [hf 4 rfl]; simp only [↓EP, EQ, EM, ↓reduceIte, Int.reduceAdd, Int.reduceEq, Int.reduceLE, Int.reduceLT, Int.reduceMul, Int.reduceNeg, Int.reducePow, Int.reduceSub, Int.reduceToNat, Nat.reduceAdd, Nat.reduceEqDiff, Nat.reduceLT, Nat.reduceLeDiff, Nat.reduceMul, reduceCtorEq, r4]
  have r6 : ρ2 6 = .pointer (some ⟨bS, 0, none⟩) := by rw [hf 6 rfl]; simp only [↓EP, EQ, EM, ↓reduceIte, Int.reduceAdd, Int.reduceEq, Int.reduceLE, Int.reduceLT, Int.reduceMul, Int.reduceNeg, Int.reducePow, Int.reduceSub, Int.reduceToNat, Nat.reduceAdd, Nat.reduceEqDiff, Nat.reduceLT, Nat.reduceLeDiff, Nat.reduceMul, reduceCtorEq, r6]
  have hal := two_alen h (rounds twoStep 64 (twoInit h p)).s k
  clear hf
  by_cases hlt : (k : Int) < 8
  · generalize hst : rounds (twoAdd h) k (rounds twoStep 64 (twoInit h p)).s = S at *
    have hcs := fun (j : Nat) (g : j < 8) => hS.numN (by omega : j < S.length)
    have hch := fun (j : Nat) (g : j < 8) => hH.numN (by omega : j < h.length)
    simp (disch := omega) only [EO, ↓EP, EQ, EM, ↓reduceIte, Int.reduceAdd, Int.reduceEq, Int.reduceLE, Int.reduceLT, Int.reduceMul, Int.reduceNeg, Int.reducePow, Int.reduceSub, Int.reduceToNat, Nat.reduceAdd, Nat.reduceEqDiff, Nat.reduceLT, Nat.reduceLeDiff, Nat.reduceMul, reduceCtorEq, hrg2, r2, r4, r6, hcs, hch]
    intro m
    refine st_num (hS.drewN m) (by omega) fun w9 p9 => ?_
    simp (disch := omega) only [EO, ↓EP, EQ, EM, ↓reduceIte, Int.reduceAdd, Int.reduceEq, Int.reduceLE, Int.reduceLT, Int.reduceMul, Int.reduceNeg, Int.reducePow, Int.reduceSub, Int.reduceToNat, Nat.reduceAdd, Nat.reduceEqDiff, Nat.reduceLT, Nat.reduceLeDiff, Nat.reduceMul, reduceCtorEq, hrg2]
    refine hN (8 - (k + 1)) _ _ (by omega) ⟨k + 1, by simp (disch := omega) only [↓EP, EQ, EM, ↓reduceIte, Int.reduceAdd, Int.reduceEq, Int.reduceLE, Int.reduceLT, Int.reduceMul, Int.reduceNeg, Int.reducePow, Int.reduceSub, Int.reduceToNat, Nat.reduceAdd, Nat.reduceEqDiff, Nat.reduceLT, Nat.reduceLeDiff, Nat.reduceMul, reduceCtorEq, hrg2, EO, Int.natCast_add], by omega, rfl, p9.keep (by omega) hH, p9.keep (by omega) hZ, ?_, p9.below (by omega) (below_drewN' hb m)⟩
    rw [rounds, hst]
    exact p9.blk
  · have hk8 : k = 8 := by omega
    subst hk8
    have hS : Blk w8 bS (nums .u32 (two h p)) := hS
    have h8 : (nums .u32 (two h p)).length = 8 := by rw [nums_length]; exact two_len h p hh
    simp (disch := omega) only [EO, ↓EP, EQ, EM, ↓reduceIte, Int.reduceAdd, Int.reduceEq, Int.reduceLE, Int.reduceLT, Int.reduceMul, Int.reduceNeg, Int.reducePow, Int.reduceSub, Int.reduceToNat, Nat.reduceAdd, Nat.reduceEqDiff, Nat.reduceLT, Nat.reduceLeDiff, Nat.reduceMul, reduceCtorEq, hrg2, r2, r4, r6]
    refine hS.ldAgg h8 ?_
    simp only [↓EP, EQ, EM, ↓reduceIte, Int.reduceAdd, Int.reduceEq, Int.reduceLE, Int.reduceLT, Int.reduceMul, Int.reduceNeg, Int.reducePow, Int.reduceSub, Int.reduceToNat, Nat.reduceAdd, Nat.reduceEqDiff, Nat.reduceLT, Nat.reduceLeDiff, Nat.reduceMul, reduceCtorEq, r2, r4, r6]
    refine st_whole hZ h8 rfl (nums_one _ _) fun w10 p10 => ?_
    simp only [↓EP, EQ, EM, ↓reduceIte, Int.reduceAdd, Int.reduceEq, Int.reduceLE, Int.reduceLT, Int.reduceMul, Int.reduceNeg, Int.reducePow, Int.reduceSub, Int.reduceToNat, Nat.reduceAdd, Nat.reduceEqDiff, Nat.reduceLT, Nat.reduceLeDiff, Nat.reduceMul, reduceCtorEq, r2, r4, r6]
    exact p10.blk.ldAgg h8 (hK _ (p10.below (by omega) hb))
attribute [irreducible] two
end Go.Proofs.YtibccpfocbdmaaaDoor.Spec
