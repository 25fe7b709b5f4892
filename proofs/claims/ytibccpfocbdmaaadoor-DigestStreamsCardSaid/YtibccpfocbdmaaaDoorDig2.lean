/- The digests: SHA-1's mixing. -/
import Derived.Test.YtibccpfocbdmaaaDoorDig1
set_option linter.unusedVariables false
set_option linter.unusedSimpArgs false
namespace Go.Proofs.YtibccpfocbdmaaaDoor.Spec
open Go Go.RowKit Go.Proofs Go.Proofs.YtibccpfocbdmaaaDoor.Eng Go.Proofs.YtibccpfocbdmaaaDoor.Code
set_option maxRecDepth 100000

def x32 (a b : Int) : Int := bits .xor .u32 a b
def a32 (a b : Int) : Int := bits .and .u32 a b
def o32 (a b : Int) : Int := bits .or .u32 a b
def s32 (a b : Int) : Int := IntKind.u32.wrap (a + b)
structure St where
  w : List Int
  a : Int
  b : Int
  c : Int
  d : Int
  e : Int
def oneW (t : Nat) (w : List Int) : List Int :=
  if (t : Int) < 16 then w else w.set ((t : Int) % 16).toNat (rl32 (x32 (x32 (x32 (at' w (((t : Int) % 16 + 13) % 16)) (at' w (((t : Int) % 16 + 8) % 16))) (at' w (((t : Int) % 16 + 2) % 16))) (at' w ((t : Int) % 16))) 1)
def oneF (t : Nat) (b c d : Int) : Int :=
  if (t : Int) < 20 then x32 d (a32 b (x32 c d)) else if (t : Int) < 40 then x32 (x32 b c) d else if (t : Int) < 60 then o32 (a32 b c) (a32 d (o32 b c)) else x32 (x32 b c) d
def oneK (t : Nat) : Int := if (t : Int) < 20 then 1518500249 else if (t : Int) < 40 then 1859775393 else if (t : Int) < 60 then 2400959708 else 3395469782
def oneStep (t : Nat) (s : St) : St :=
  ⟨oneW t s.w, s32 (s32 (s32 (s32 (rl32 s.a 5) (oneF t s.b s.c s.d)) s.e) (oneK t)) (at' (oneW t s.w) ((t : Int) % 16)), s.a, rl32 s.b 30, s.c, s.d⟩
def oneInit (h p : List Int) : St := ⟨words p, at' h 0, at' h 1, at' h 2, at' h 3, at' h 4⟩
def one (h p : List Int) : List Int :=
  let s := rounds oneStep 80 (oneInit h p)
  [s32 (at' h 0) s.a, s32 (at' h 1) s.b, s32 (at' h 2) s.c, s32 (at' h 3) s.d, s32 (at' h 4) s.e, 0, 0, 0]
theorem oneW_len (t : Nat) (w : List Int) : (oneW t w).length = w.length := by
  unfold oneW; split <;> simp
theorem one_wlen (s : St) : ∀ n, (rounds oneStep n s).w.length = s.w.length
  | 0 => rfl
  | n + 1 => by rw [rounds, oneStep, oneW_len, one_wlen s n]

theorem oneInit_0 (h p : List Int) : rounds oneStep 0 (oneInit h p) = ⟨words p, at' h 0, at' h 1, at' h 2, at' h 3, at' h 4⟩ := rfl
def oneI (w : World) (h p : List Int) (b5 m : Nat) (ρ : Env) (w' : World) : Prop :=
  ∃ k : Nat, ρ 27 = .int .i64 k ∧ k ≤ 80 ∧ m = 80 - k ∧ ρ 6 = .int .u32 (rounds oneStep k (oneInit h p)).a ∧ ρ 7 = .int .u32 (rounds oneStep k (oneInit h p)).b ∧ ρ 8 = .int .u32 (rounds oneStep k (oneInit h p)).c ∧ ρ 9 = .int .u32 (rounds oneStep k (oneInit h p)).d ∧ ρ 10 = .int .u32 (rounds oneStep k (oneInit h p)).e ∧
    Blk w' w.heap.size (nums .u32 h) ∧ Blk w' (w.heap.size + 1) (nums .u32 (zs 8)) ∧ Blk w' b5 (nums .u32 (rounds oneStep k (oneInit h p)).w) ∧ Below w.heap.size w w'

set_option maxHeartbeats 2000000 in
theorem one_spec (h p : List Int) (hh : h.length = 8) (hp : p.length = 64) (A : Option Addr) (cap : Nat) (w : World) (hr : Rd w A (nums .u8 p)) (K : Value → World → Prop)
    (hK : ∀ w', Below w.heap.size w w' → K (.agg (nums .u32 (one h p)).toArray) w') : callK Tryd.prog 33 [.agg (nums .u32 h).toArray, .slice A 64 cap] w K := by
  refine call_of Tryd.func33 Code.h33 (by simp [Code.c33]) ?_
  simp only [Code.c33, ↓EP, EQ, EM, ↓reduceIte, Int.reduceAdd, Int.reduceEq, Int.reduceLE, Int.reduceLT, Int.reduceMul, Int.reduceNeg, Int.reducePow, Int.reduceSub, Int.reduceToNat, Nat.reduceAdd, Nat.reduceEqDiff, Nat.reduceLT, Nat.reduceLeDiff, Nat.reduceMul, reduceCtorEq]
  refine al_k (nums .u32 h) rfl fun w1 n1 => ?_
  simp only [↓EP, EQ, EM, ↓reduceIte, Int.reduceAdd, Int.reduceEq, Int.reduceLE, Int.reduceLT, Int.reduceMul, Int.reduceNeg, Int.reducePow, Int.reduceSub, Int.reduceToNat, Nat.reduceAdd, Nat.reduceEqDiff, Nat.reduceLT, Nat.reduceLeDiff, Nat.reduceMul, reduceCtorEq]
  refine al_k (nums .u32 (zs 8)) rfl fun w2 n2 => ?_
  simp only [↓EP, EQ, EM, ↓reduceIte, Int.reduceAdd, Int.reduceEq, Int.reduceLE, Int.reduceLT, Int.reduceMul, Int.reduceNeg, Int.reducePow, Int.reduceSub, Int.reduceToNat, Nat.reduceAdd, Nat.reduceEqDiff, Nat.reduceLT, Nat.reduceLeDiff, Nat.reduceMul, reduceCtorEq]
  have hs2 : w2.heap.size = w.heap.size + 2 := by rw [n2.size, n1.size]
  have hb2 : Below w.heap.size w w2 := n2.below (by rw [n1.size]; omega) (n1.below (Nat.le_refl _) (Below.refl _ _))
  have hH := n2.keep n1.blk
  have hZ := n2.blk
  rw [n1.size] at hZ
  refine words_spec A cap p hp w2 (n2.rd (n1.rd hr)) _ ?_
  intro w3 hb3
  simp only [↓EP, EQ, EM, ↓reduceIte, Int.reduceAdd, Int.reduceEq, Int.reduceLE, Int.reduceLT, Int.reduceMul, Int.reduceNeg, Int.reducePow, Int.reduceSub, Int.reduceToNat, Nat.reduceAdd, Nat.reduceEqDiff, Nat.reduceLT, Nat.reduceLeDiff, Nat.reduceMul, reduceCtorEq]
  refine al_k (nums .u32 (zs 16)) rfl fun w4 n4 => ?_
  simp only [↓EP, EQ, EM, ↓reduceIte, Int.reduceAdd, Int.reduceEq, Int.reduceLE, Int.reduceLT, Int.reduceMul, Int.reduceNeg, Int.reducePow, Int.reduceSub, Int.reduceToNat, Nat.reduceAdd, Nat.reduceEqDiff, Nat.reduceLT, Nat.reduceLeDiff, Nat.reduceMul, reduceCtorEq]
  have hs3 := hb3.size
  have hwl : (nums .u32 (words p)).length = 16 := by rw [nums_length]; exact words_len p
  refine st_whole n4.blk hwl rfl (nums_one _ _) fun w5 p5 => ?_
  have hH5 := p5.keep (by omega) (n4.keep (hH.below hb3 (by omega)))
  have hZ5 := p5.keep (by omega) (n4.keep (hZ.below hb3 (by omega)))
  have hb5 : Below w.heap.size w w5 := p5.below (by omega) (n4.below (by omega) (hb2.trans (hb3.mono (by omega))))
  have hc := fun (j : Nat) (g : j < 8) => hH5.numN (by omega : j < h.length)
  simp (disch := omega) only [EO, ↓EP, EQ, EM, ↓reduceIte, Int.reduceAdd, Int.reduceEq, Int.reduceLE, Int.reduceLT, Int.reduceMul, Int.reduceNeg, Int.reducePow, Int.reduceSub, Int.reduceToNat, Nat.reduceAdd, Nat.reduceEqDiff, Nat.reduceLT, Nat.reduceLeDiff, Nat.reduceMul, reduceCtorEq, hc]
  intro m
  have hs5 := p5.size
  have hs4 := n4.size
  refine loop_inv (oneI w h p w3.heap.size) 80 ?_ ?_
  · refine ⟨0, by simp only [↓EP, EQ, EM, ↓reduceIte, Int.reduceAdd, Int.reduceEq, Int.reduceLE, Int.reduceLT, Int.reduceMul, Int.reduceNeg, Int.reducePow, Int.reduceSub, Int.reduceToNat, Nat.reduceAdd, Nat.reduceEqDiff, Nat.reduceLT, Nat.reduceLeDiff, Nat.reduceMul, reduceCtorEq], by omega, by omega, ?_⟩
    simp only [oneInit_0]
    simp only [↓EP, EQ, EM, ↓reduceIte, Int.reduceAdd, Int.reduceEq, Int.reduceLE, Int.reduceLT, Int.reduceMul, Int.reduceNeg, Int.reducePow, Int.reduceSub, Int.reduceToNat, Nat.reduceAdd, Nat.reduceEqDiff, Nat.reduceLT, Nat.reduceLeDiff, Nat.reduceMul, reduceCtorEq]
    exact ⟨hH5.drewN m, hZ5.drewN m, p5.blk.drewN m, below_drewN' hb5 m⟩
  · rintro m' ρ w' hf ⟨k, h27, hk, rfl, h6, h7, h8, h9, h10, hH, hZ, hW, hb⟩ N hN
    have r2 : ρ 2 = .pointer (some ⟨w.heap.size, 0, none⟩) := by rw [hf 2 rfl]; simp only [↓EP, EQ, EM, ↓reduceIte, Int.reduceAdd, Int.reduceEq, Int.reduceLE, Int.reduceLT, Int.reduceMul, Int.reduceNeg, Int.reducePow, Int.reduceSub, Int.reduceToNat, Nat.reduceAdd, Nat.reduceEqDiff, Nat.reduceLT, Nat.reduceLeDiff, Nat.reduceMul, reduceCtorEq]
    have r4 : ρ 4 = .pointer (some ⟨w.heap.size + 1, 0, none⟩) := by rw [hf 4 rfl]; simp only [↓EP, EQ, EM, ↓reduceIte, Int.reduceAdd, Int.reduceEq, Int.reduceLE, Int.reduceLT, Int.reduceMul, Int.reduceNeg, Int.reducePow, Int.reduceSub, Int.reduceToNat, Nat.reduceAdd, Nat.reduceEqDiff, Nat.reduceLT, Nat.reduceLeDiff, Nat.reduceMul, reduceCtorEq, n1.size]
    have r5 : ρ 5 = .pointer (some ⟨w3.heap.size, 0, none⟩) := by rw [hf 5 rfl]; simp only [↓EP, EQ, EM, ↓reduceIte, Int.reduceAdd, Int.reduceEq, Int.reduceLE, Int.reduceLT, Int.reduceMul, Int.reduceNeg, Int.reducePow, Int.reduceSub, Int.reduceToNat, Nat.reduceAdd, Nat.reduceEqDiff, Nat.reduceLT, Nat.reduceLeDiff, Nat.reduceMul, reduceCtorEq]
    have hwl : (rounds oneStep k (oneInit h p)).w.length = 16 := by rw [one_wlen]; exact words_len p
    clear hf
    generalize hst : rounds oneStep k (oneInit h p) = st at *
    by_cases hlt : (k : Int) < 80
    · have fin : ∀ (w6 : World) (ρ6 : Env), ρ6 27 = .int .i64 ((k + 1 : Nat) : Int) → ρ6 6 = .int .u32 (oneStep k st).a → ρ6 7 = .int .u32 (oneStep k st).b → ρ6 8 = .int .u32 (oneStep k st).c → ρ6 9 = .int .u32 (oneStep k st).d → ρ6 10 = .int .u32 (oneStep k st).e →
          Blk w6 w.heap.size (nums .u32 h) → Blk w6 (w.heap.size + 1) (nums .u32 (zs 8)) → Blk w6 w3.heap.size (nums .u32 (oneStep k st).w) → Below w.heap.size w w6 → endK N ρ6 w6 := by
        intro w6 ρ6 g1 g2 g3 g4 g5 g6 g7 g8 g9 g10
        refine hN (80 - (k + 1)) _ _ (by omega) ⟨k + 1, g1, by omega, rfl, ?_⟩
        rw [rounds, hst]
        exact ⟨g2, g3, g4, g5, g6, g7, g8, g9, g10⟩
      simp only [oneStep] at fin
      generalize hw7 : oneW k st.w = W at fin
      by_cases h16 : (k : Int) < 16
      · rw [oneW, if_pos h16] at hw7
        subst hw7
        have hcw := fun (j : Nat) (g : j < 16) => hW.numN (by omega : j < st.w.length)
        have hF : oneF k st.b st.c st.d = x32 st.d (a32 st.b (x32 st.c st.d)) := by rw [oneF, if_pos (by omega)]
        have hKK : oneK k = 1518500249 := by rw [oneK, if_pos (by omega)]
        rw [hF, hKK] at fin
        simp (disch := omega) only [EO, ↓EP, EQ, EM, ↓reduceIte, Int.reduceAdd, Int.reduceEq, Int.reduceLE, Int.reduceLT, Int.reduceMul, Int.reduceNeg, Int.reducePow, Int.reduceSub, Int.reduceToNat, Nat.reduceAdd, Nat.reduceEqDiff, Nat.reduceLT, Nat.reduceLeDiff, Nat.reduceMul, reduceCtorEq, W_join, h27, r2, r4, r5, h6, h7, h8, h9, h10, hcw]
        refine rotl32_q _ 5 5 (by decide +kernel) (by omega) (by omega) _ _ ?_
        simp (disch := omega) only [EO, ↓EP, EQ, EM, ↓reduceIte, Int.reduceAdd, Int.reduceEq, Int.reduceLE, Int.reduceLT, Int.reduceMul, Int.reduceNeg, Int.reducePow, Int.reduceSub, Int.reduceToNat, Nat.reduceAdd, Nat.reduceEqDiff, Nat.reduceLT, Nat.reduceLeDiff, Nat.reduceMul, reduceCtorEq, h27, r2, r4, r5, h6, h7, h8, h9, h10, hcw]
        refine rotl32_q _ 30 30 (by decide +kernel) (by omega) (by omega) _ _ ?_
        simp (disch := omega) only [EO, ↓EP, EQ, EM, ↓reduceIte, Int.reduceAdd, Int.reduceEq, Int.reduceLE, Int.reduceLT, Int.reduceMul, Int.reduceNeg, Int.reducePow, Int.reduceSub, Int.reduceToNat, Nat.reduceAdd, Nat.reduceEqDiff, Nat.reduceLT, Nat.reduceLeDiff, Nat.reduceMul, reduceCtorEq, h27, r2, r4, r5, h6, h7, h8, h9, h10, hcw]
        intro m1
        refine fin _ _ ?_ ?_ ?_ ?_ ?_ ?_ (hH.drewN _) (hZ.drewN _) (hW.drewN _) (below_drewN' hb _)
        all_goals simp (disch := omega) only [EO, ↓EP, EQ, EM, ↓reduceIte, Int.reduceAdd, Int.reduceEq, Int.reduceLE, Int.reduceLT, Int.reduceMul, Int.reduceNeg, Int.reducePow, Int.reduceSub, Int.reduceToNat, Nat.reduceAdd, Nat.reduceEqDiff, Nat.reduceLT, Nat.reduceLeDiff, Nat.reduceMul, reduceCtorEq, h27, r2, r4, r5, h6, h7, h8, h9, h10, hcw, s32, x32, a32, o32, Int.natCast_add]
      · rw [oneW, if_neg h16] at hw7
        have hcw := fun (j : Nat) (g : j < 16) => hW.numN (by omega : j < st.w.length)
        simp (disch := omega) only [EO, ↓EP, EQ, EM, ↓reduceIte, Int.reduceAdd, Int.reduceEq, Int.reduceLE, Int.reduceLT, Int.reduceMul, Int.reduceNeg, Int.reducePow, Int.reduceSub, Int.reduceToNat, Nat.reduceAdd, Nat.reduceEqDiff, Nat.reduceLT, Nat.reduceLeDiff, Nat.reduceMul, reduceCtorEq, W_join, h27, r2, r4, r5, h6, h7, h8, h9, h10, hcw]
        refine rotl32_q _ 1 1 (by decide +kernel) (by omega) (by omega) _ _ ?_
        simp (disch := omega) only [EO, ↓EP, EQ, EM, ↓reduceIte, Int.reduceAdd, Int.reduceEq, Int.reduceLE, Int.reduceLT, Int.reduceMul, Int.reduceNeg, Int.reducePow, Int.reduceSub, Int.reduceToNat, Nat.reduceAdd, Nat.reduceEqDiff, Nat.reduceLT, Nat.reduceLeDiff, Nat.reduceMul, reduceCtorEq, h27, r2, r4, r5, h6, h7, h8, h9, h10, hcw]
        intro m0
        refine st_num (hW.drewN m0) (by rw [hwl]; omega) fun w8 p8 => ?_
        have hw7 : st.w.set ((k : Int) % 16).toNat (rl32 (x32 (x32 (x32 (at' st.w (((k : Int) % 16 + 13) % 16)) (at' st.w (((k : Int) % 16 + 8) % 16))) (at' st.w (((k : Int) % 16 + 2) % 16))) (at' st.w ((k : Int) % 16))) 1) = W := hw7
        have p8 : Put (w'.drewN m0) w8 w3.heap.size (nums .u32 W) := by rw [← hw7]; exact p8
        have hWl : W.length = 16 := by subst hw7; simp [hwl]
        have hcW := fun (j : Nat) (g : j < 16) => p8.blk.numN (by omega : j < W.length)
        have hH' := p8.keep (by omega) hH
        have hZ' := p8.keep (by omega) hZ
        have hb' := p8.below (by omega) (below_drewN' hb m0)
        clear hcw hw7
        have c : (k : Int) < 20 ∨ (20 ≤ (k : Int) ∧ (k : Int) < 40) ∨ (40 ≤ (k : Int) ∧ (k : Int) < 60) ∨ 60 ≤ (k : Int) := by omega
        rcases c with c | c | c | c
        · have hF : oneF k st.b st.c st.d = x32 st.d (a32 st.b (x32 st.c st.d)) := by rw [oneF, if_pos (by omega)]
          have hKK : oneK k = 1518500249 := by rw [oneK, if_pos (by omega)]
          rw [hF, hKK] at fin
          simp (disch := omega) only [EO, ↓EP, EQ, EM, ↓reduceIte, Int.reduceAdd, Int.reduceEq, Int.reduceLE, Int.reduceLT, Int.reduceMul, Int.reduceNeg, Int.reducePow, Int.reduceSub, Int.reduceToNat, Nat.reduceAdd, Nat.reduceEqDiff, Nat.reduceLT, Nat.reduceLeDiff, Nat.reduceMul, reduceCtorEq, W_join, h27, r2, r4, r5, h6, h7, h8, h9, h10, hcW]
          refine rotl32_q _ 5 5 (by decide +kernel) (by omega) (by omega) _ _ ?_
          simp (disch := omega) only [EO, ↓EP, EQ, EM, ↓reduceIte, Int.reduceAdd, Int.reduceEq, Int.reduceLE, Int.reduceLT, Int.reduceMul, Int.reduceNeg, Int.reducePow, Int.reduceSub, Int.reduceToNat, Nat.reduceAdd, Nat.reduceEqDiff, Nat.reduceLT, Nat.reduceLeDiff, Nat.reduceMul, reduceCtorEq, h27, r2, r4, r5, h6, h7, h8, h9, h10, hcW]
          refine rotl32_q _ 30 30 (by decide +kernel) (by omega) (by omega) _ _ ?_
          simp (disch := omega) only [EO, ↓EP, EQ, EM, ↓reduceIte, Int.reduceAdd, Int.reduceEq, Int.reduceLE, Int.reduceLT, Int.reduceMul, Int.reduceNeg, Int.reducePow, Int.reduceSub, Int.reduceToNat, Nat.reduceAdd, Nat.reduceEqDiff, Nat.reduceLT, Nat.reduceLeDiff, Nat.reduceMul, reduceCtorEq, h27, r2, r4, r5, h6, h7, h8, h9, h10, hcW]
          intro m1
          refine fin _ _ ?_ ?_ ?_ ?_ ?_ ?_ (hH'.drewN _) (hZ'.drewN _) (p8.blk.drewN _) (below_drewN' hb' _)
          all_goals simp (disch := omega) only [EO, ↓EP, EQ, EM, ↓reduceIte, Int.reduceAdd, Int.reduceEq, Int.reduceLE, Int.reduceLT, Int.reduceMul, Int.reduceNeg, Int.reducePow, Int.reduceSub, Int.reduceToNat, Nat.reduceAdd, Nat.reduceEqDiff, Nat.reduceLT, Nat.reduceLeDiff, Nat.reduceMul, reduceCtorEq, h27, r2, r4, r5, h6, h7, h8, h9, h10, hcW, s32, x32, a32, o32, Int.natCast_add]
        · have hF : oneF k st.b st.c st.d = x32 (x32 st.b st.c) st.d := by rw [oneF, if_neg (by omega), if_pos (by omega)]
          have hKK : oneK k = 1859775393 := by rw [oneK, if_neg (by omega), if_pos (by omega)]
          rw [hF, hKK] at fin
          simp (disch := omega) only [EO, ↓EP, EQ, EM, ↓reduceIte, Int.reduceAdd, Int.reduceEq, Int.reduceLE, Int.reduceLT, Int.reduceMul, Int.reduceNeg, Int.reducePow, Int.reduceSub, Int.reduceToNat, Nat.reduceAdd, Nat.reduceEqDiff, Nat.reduceLT, Nat.reduceLeDiff, Nat.reduceMul, reduceCtorEq, W_join, h27, r2, r4, r5, h6, h7, h8, h9, h10, hcW]
          refine rotl32_q _ 5 5 (by decide +kernel) (by omega) (by omega) _ _ ?_
          simp (disch := omega) only [EO, ↓EP, EQ, EM, ↓reduceIte, Int.reduceAdd, Int.reduceEq, Int.reduceLE, Int.reduceLT, Int.reduceMul, Int.reduceNeg, Int.reducePow, Int.reduceSub, Int.reduceToNat, Nat.reduceAdd, Nat.reduceEqDiff, Nat.reduceLT, Nat.reduceLeDiff, Nat.reduceMul, reduceCtorEq, h27, r2, r4, r5, h6, h7, h8, h9, h10, hcW]
          refine rotl32_q _ 30 30 (by decide +kernel) (by omega) (by omega) _ _ ?_
          simp (disch := omega) only [EO, ↓EP, EQ, EM, ↓reduceIte, Int.reduceAdd, Int.reduceEq, Int.reduceLE, Int.reduceLT, Int.reduceMul, Int.reduceNeg, Int.reducePow, Int.reduceSub, Int.reduceToNat, Nat.reduceAdd, Nat.reduceEqDiff, Nat.reduceLT, Nat.reduceLeDiff, Nat.reduceMul, reduceCtorEq, h27, r2, r4, r5, h6, h7, h8, h9, h10, hcW]
          intro m1
          refine fin _ _ ?_ ?_ ?_ ?_ ?_ ?_ (hH'.drewN _) (hZ'.drewN _) (p8.blk.drewN _) (below_drewN' hb' _)
          all_goals simp (disch := omega) only [EO, ↓EP, EQ, EM, ↓reduceIte, Int.reduceAdd, Int.reduceEq, Int.reduceLE, Int.reduceLT, Int.reduceMul, Int.reduceNeg, Int.reducePow, Int.reduceSub, Int.reduceToNat, Nat.reduceAdd, Nat.reduceEqDiff, Nat.reduceLT, Nat.reduceLeDiff, Nat.reduceMul, reduceCtorEq, h27, r2, r4, r5, h6, h7, h8, h9, h10, hcW, s32, x32, a32, o32, Int.natCast_add]
        · have hF : oneF k st.b st.c st.d = o32 (a32 st.b st.c) (a32 st.d (o32 st.b st.c)) := by rw [oneF, if_neg (by omega), if_neg (by omega), if_pos (by omega)]
          have hKK : oneK k = 2400959708 := by rw [oneK, if_neg (by omega), if_neg (by omega), if_pos (by omega)]
          rw [hF, hKK] at fin
          simp (disch := omega) only [EO, ↓EP, EQ, EM, ↓reduceIte, Int.reduceAdd, Int.reduceEq, Int.reduceLE, Int.reduceLT, Int.reduceMul, Int.reduceNeg, Int.reducePow, Int.reduceSub, Int.reduceToNat, Nat.reduceAdd, Nat.reduceEqDiff, Nat.reduceLT, Nat.reduceLeDiff, Nat.reduceMul, reduceCtorEq, W_join, h27, r2, r4, r5, h6, h7, h8, h9, h10, hcW]
          refine rotl32_q _ 5 5 (by decide +kernel) (by omega) (by omega) _ _ ?_
          simp (disch := omega) only [EO, ↓EP, EQ, EM, ↓reduceIte, Int.reduceAdd, Int.reduceEq, Int.reduceLE, Int.reduceLT, Int.reduceMul, Int.reduceNeg, Int.reducePow, Int.reduceSub, Int.reduceToNat, Nat.reduceAdd, Nat.reduceEqDiff, Nat.reduceLT, Nat.reduceLeDiff, Nat.reduceMul, reduceCtorEq, h27, r2, r4, r5, h6, h7, h8, h9, h10, hcW]
          refine rotl32_q _ 30 30 (by decide +kernel) (by omega) (by omega) _ _ ?_
          simp (disch := omega) only [EO, ↓EP, EQ, EM, ↓reduceIte, Int.reduceAdd, Int.reduceEq, Int.reduceLE, Int.reduceLT, Int.reduceMul, Int.reduceNeg, Int.reducePow, Int.reduceSub, Int.reduceToNat, Nat.reduceAdd, Nat.reduceEqDiff, Nat.reduceLT, Nat.reduceLeDiff, Nat.reduceMul, reduceCtorEq, h27, r2, r4, r5, h6, h7, h8, h9, h10, hcW]
          intro m1
          refine fin _ _ ?_ ?_ ?_ ?_ ?_ ?_ (hH'.drewN _) (hZ'.drewN _) (p8.blk.drewN _) (below_drewN' hb' _)
          all_goals simp (disch := omega) only [EO, ↓EP, EQ, EM, ↓reduceIte, Int.reduceAdd, Int.reduceEq, Int.reduceLE, Int.reduceLT, Int.reduceMul, Int.reduceNeg, Int.reducePow, Int.reduceSub, Int.reduceToNat, Nat.reduceAdd, Nat.reduceEqDiff, Nat.reduceLT, Nat.reduceLeDiff, Nat.reduceMul, reduceCtorEq, h27, r2, r4, r5, h6, h7, h8, h9, h10, hcW, s32, x32, a32, o32, Int.natCast_add]
        · have hF : oneF k st.b st.c st.d = x32 (x32 st.b st.c) st.d := by rw [oneF, if_neg (by omega), if_neg (by omega), if_neg (by omega)]
          have hKK : oneK k = 3395469782 := by rw [oneK, if_neg (by omega), if_neg (by omega), if_neg (by omega)]
          rw [hF, hKK] at fin
          simp (disch := omega) only [EO, ↓EP, EQ, EM, ↓reduceIte, Int.reduceAdd, Int.reduceEq, Int.reduceLE, Int.reduceLT, Int.reduceMul, Int.reduceNeg, Int.reducePow, Int.reduceSub, Int.reduceToNat, Nat.reduceAdd, Nat.reduceEqDiff, Nat.reduceLT, Nat.reduceLeDiff, Nat.reduceMul, reduceCtorEq, W_join, h27, r2, r4, r5, h6, h7, h8, h9, h10, hcW]
          refine rotl32_q _ 5 5 (by decide +kernel) (by omega) (by omega) _ _ ?_
          simp (disch := omega) only [EO, ↓EP, EQ, EM, ↓reduceIte, Int.reduceAdd, Int.reduceEq, Int.reduceLE, Int.reduceLT, Int.reduceMul, Int.reduceNeg, Int.reducePow, Int.reduceSub, Int.reduceToNat, Nat.reduceAdd, Nat.reduceEqDiff, Nat.reduceLT, Nat.reduceLeDiff, Nat.reduceMul, reduceCtorEq, h27, r2, r4, r5, h6, h7, h8, h9, h10, hcW]
          refine rotl32_q _ 30 30 (by decide +kernel) (by omega) (by omega) _ _ ?_
          simp (disch := omega) only [EO, ↓EP, EQ, EM, ↓reduceIte, Int.reduceAdd, Int.reduceEq, Int.reduceLE, Int.reduceLT, Int.reduceMul, Int.reduceNeg, Int.reducePow, Int.reduceSub, Int.reduceToNat, Nat.reduceAdd, Nat.reduceEqDiff, Nat.reduceLT, Nat.reduceLeDiff, Nat.reduceMul, reduceCtorEq, h27, r2, r4, r5, h6, h7, h8, h9, h10, hcW]
          intro m1
          refine fin _ _ ?_ ?_ ?_ ?_ ?_ ?_ (hH'.drewN _) (hZ'.drewN _) (p8.blk.drewN _) (below_drewN' hb' _)
          all_goals simp (disch := omega) only [EO, ↓EP, EQ, EM, ↓reduceIte, Int.reduceAdd, Int.reduceEq, Int.reduceLE, Int.reduceLT, Int.reduceMul, Int.reduceNeg, Int.reducePow, Int.reduceSub, Int.reduceToNat, Nat.reduceAdd, Nat.reduceEqDiff, Nat.reduceLT, Nat.reduceLeDiff, Nat.reduceMul, reduceCtorEq, h27, r2, r4, r5, h6, h7, h8, h9, h10, hcW, s32, x32, a32, o32, Int.natCast_add]
    · have hk80 : k = 80 := by omega
      subst hk80
      have hcc := fun (j : Nat) (g : j < 8) => hH.numN (by omega : j < h.length)
      simp (disch := omega) only [EO, ↓EP, EQ, EM, ↓reduceIte, Int.reduceAdd, Int.reduceEq, Int.reduceLE, Int.reduceLT, Int.reduceMul, Int.reduceNeg, Int.reducePow, Int.reduceSub, Int.reduceToNat, Nat.reduceAdd, Nat.reduceEqDiff, Nat.reduceLT, Nat.reduceLeDiff, Nat.reduceMul, reduceCtorEq, h27, r2, r4, h6, h7, h8, h9, h10, hcc]
      have hfill : fillL [(0, 1), (1, 1), (2, 1), (3, 1), (4, 1), (5, 1), (6, 1), (7, 1)] (Array.replicate 8 (Value.int IntKind.u32 0)) [(0, Value.int IntKind.u32 (s32 (at' h 0) st.a)), (1, Value.int IntKind.u32 (s32 (at' h 1) st.b)), (2, Value.int IntKind.u32 (s32 (at' h 2) st.c)), (3, Value.int IntKind.u32 (s32 (at' h 3) st.d)), (4, Value.int IntKind.u32 (s32 (at' h 4) st.e))] = some (nums .u32 (one h p)).toArray := by
        unfold one; rw [hst]; rfl
      have h8 : (nums .u32 (one h p)).length = 8 := by rw [nums_length]; rfl
      refine ⟨_, hfill, ?_⟩
      simp only [↓EP, EQ, EM, ↓reduceIte, Int.reduceAdd, Int.reduceEq, Int.reduceLE, Int.reduceLT, Int.reduceMul, Int.reduceNeg, Int.reducePow, Int.reduceSub, Int.reduceToNat, Nat.reduceAdd, Nat.reduceEqDiff, Nat.reduceLT, Nat.reduceLeDiff, Nat.reduceMul, reduceCtorEq, r2, r4]
      refine st_whole hZ h8 rfl (nums_one _ _) fun w8 p8 => ?_
      simp only [↓EP, EQ, EM, ↓reduceIte, Int.reduceAdd, Int.reduceEq, Int.reduceLE, Int.reduceLT, Int.reduceMul, Int.reduceNeg, Int.reducePow, Int.reduceSub, Int.reduceToNat, Nat.reduceAdd, Nat.reduceEqDiff, Nat.reduceLT, Nat.reduceLeDiff, Nat.reduceMul, reduceCtorEq, r2, r4]
      exact p8.blk.ldAgg h8 (hK _ (p8.below (by omega) hb))
end Go.Proofs.YtibccpfocbdmaaaDoor.Spec
