/- The digests: the mixing by words of 64 bits. -/
import Derived.Test.YtibccpfocbdmaaaDoorDig3
set_option linter.unusedVariables false
set_option linter.unusedSimpArgs false
namespace Go.Proofs.YtibccpfocbdmaaaDoor.Spec
open Go Go.RowKit Go.Proofs Go.Proofs.YtibccpfocbdmaaaDoor.Eng Go.Proofs.YtibccpfocbdmaaaDoor.Code
set_option maxRecDepth 100000

def k512 : List Int := [4794697086780616226, 8158064640168781261, 13096744586834688815, 16840607885511220156, 4131703408338449720, 6480981068601479193, 10538285296894168987, 12329834152419229976, 15566598209576043074, 1334009975649890238, 2608012711638119052, 6128411473006802146, 8268148722764581231, 9286055187155687089, 11230858885718282805, 13951009754708518548, 16472876342353939154, 17275323862435702243, 1135362057144423861, 2597628984639134821, 3308224258029322869, 5365058923640841347, 6679025012923562964, 8573033837759648693, 10970295158949994411, 12119686244451234320, 12683024718118986047, 13788192230050041572, 14330467153632333762, 15395433587784984357, 489312712824947311, 1452737877330783856, 2861767655752347644, 3322285676063803686, 5560940570517711597, 5996557281743188959, 7280758554555802590, 8532644243296465576, 9350256976987008742, 10552545826968843579, 11727347734174303076, 12113106623233404929, 14000437183269869457, 14369950271660146224, 15101387698204529176, 15463397548674623760, 17586052441742319658, 1182934255886127544, 1847814050463011016, 2177327727835720531, 2830643537854262169, 3796741975233480872, 4115178125766777443, 5681478168544905931, 6601373596472566643, 7507060721942968483, 8399075790359081724, 8693463985226723168, 9568029438360202098, 10144078919501101548, 10430055236837252648, 11840083180663258601, 13761210420658862357, 14299343276471374635, 14566680578165727644, 15097957966210449927, 16922976911328602910, 17689382322260857208, 500013540394364858, 748580250866718886, 1242879168328830382, 1977374033974150939, 2944078676154940804, 3659926193048069267, 4368137639120453308, 4836135668995329356, 5532061633213252278, 6448918945643986474, 6902733635092675308, 7801388544844847127]
theorem k512_len : k512.length = 80 := rfl
attribute [irreducible] k512
def x64 (a b : Int) : Int := bits .xor .u64 a b
def a64 (a b : Int) : Int := bits .and .u64 a b
def o64 (a b : Int) : Int := bits .or .u64 a b
def s64 (a b : Int) : Int := IntKind.u64.wrap (a + b)
def wwStep (p : List Int) (i : Nat) (l : List Int) : List Int := l.set ((i : Int) / 8).toNat (o64 (IntKind.u64.wrap (at' l ((i : Int) / 8) * 256)) (IntKind.u64.wrap (at' p i)))
def wwords (p : List Int) : List Int := rounds (wwStep p) 128 (zs 16)
theorem wwr_len (p : List Int) (k : Nat) : (rounds (wwStep p) k (zs 16)).length = 16 := rounds_len _ (fun n l => by simp [wwStep]) _ _
theorem wwords_len (p : List Int) : (wwords p).length = 16 := wwr_len p 128
attribute [irreducible] wwords
structure S64 where
  w : List Int
  s : List Int
def wideW (t : Nat) (w : List Int) : List Int :=
  if (t : Int) < 16 then w else w.set ((t : Int) % 16).toNat (s64 (at' w ((t : Int) % 16)) (s64 (s64 (tn64 (at' w ((((t : Int) % 16) + 14) % 16)) 19 61 6 true) (at' w ((((t : Int) % 16) + 9) % 16))) (tn64 (at' w ((((t : Int) % 16) + 1) % 16)) 1 8 7 true)))
def wideX (t : Nat) (w s : List Int) : Int := s64 (s64 (s64 (s64 (at' s 7) (tn64 (at' s 4) 14 18 41 false)) (x64 (at' s 6) (a64 (at' s 4) (x64 (at' s 5) (at' s 6))))) (at' k512 t)) (at' w ((t : Int) % 16))
def wideY (s : List Int) : Int := s64 (tn64 (at' s 0) 28 34 39 false) (o64 (a64 (at' s 0) (at' s 1)) (a64 (at' s 2) (o64 (at' s 0) (at' s 1))))
def wideS (x y : Int) (s : List Int) : List Int := [s64 x y, at' s 0, at' s 1, at' s 2, s64 (at' s 3) x, at' s 4, at' s 5, at' s 6]
def wideStep (t : Nat) (q : S64) : S64 := ⟨wideW t q.w, wideS (wideX t (wideW t q.w) q.s) (wideY q.s) q.s⟩
def wideInit (h p : List Int) : S64 := ⟨wwords p, h⟩
def wideAdd (h : List Int) (i : Nat) (s : List Int) : List Int := s.set i (s64 (at' s i) (at' h i))
def wide (h p : List Int) : List Int := rounds (wideAdd h) 8 (rounds wideStep 80 (wideInit h p)).s
theorem wideW_len (t : Nat) (w : List Int) : (wideW t w).length = w.length := by
  unfold wideW; split <;> simp
theorem wide_wlen (s : S64) : ∀ n, (rounds wideStep n s).w.length = s.w.length
  | 0 => rfl
  | n + 1 => by rw [rounds, wideStep, wideW_len, wide_wlen s n]
theorem wide_slen (s : S64) (h : s.s.length = 8) : ∀ n, (rounds wideStep n s).s.length = 8
  | 0 => h
  | n + 1 => rfl
theorem wide_alen (h s : List Int) (k : Nat) : (rounds (wideAdd h) k s).length = s.length := rounds_len _ (fun n l => by simp [wideAdd]) _ _
theorem wide_len (h p : List Int) (hh : h.length = 8) : (wide h p).length = 8 := by unfold wide; rw [wide_alen, wide_slen _ hh]
theorem wideInit_0 (h p : List Int) : rounds wideStep 0 (wideInit h p) = ⟨wwords p, h⟩ := rfl

set_option maxHeartbeats 2000000 in
theorem wide_spec (h p : List Int) (hh : h.length = 8) (hp : p.length = 128) (A : Option Addr) (cap : Nat) (w : World) (hr : Rd w A (nums .u8 p)) (hT : cellsAt w ⟨1, 0, none⟩ (nums .u64 k512)) (hg : 1 < w.heap.size) (K : Value → World → Prop)
    (hK : ∀ w', Below w.heap.size w w' → K (.agg (nums .u64 (wide h p)).toArray) w') : callK Tryd.prog 35 [.agg (nums .u64 h).toArray, .slice A 128 cap] w K := by
  refine call_of Tryd.func35 Code.h35 (by simp [Code.c35]) ?_
  simp only [Code.c35, ↓EP, EQ, EM, ↓reduceIte, Int.reduceAdd, Int.reduceEq, Int.reduceLE, Int.reduceLT, Int.reduceMul, Int.reduceNeg, Int.reducePow, Int.reduceSub, Int.reduceToNat, Nat.reduceAdd, Nat.reduceEqDiff, Nat.reduceLT, Nat.reduceLeDiff, Nat.reduceMul, reduceCtorEq]
  refine al_k (nums .u64 h) rfl fun w1 n1 => ?_
  simp only [↓EP, EQ, EM, ↓reduceIte, Int.reduceAdd, Int.reduceEq, Int.reduceLE, Int.reduceLT, Int.reduceMul, Int.reduceNeg, Int.reducePow, Int.reduceSub, Int.reduceToNat, Nat.reduceAdd, Nat.reduceEqDiff, Nat.reduceLT, Nat.reduceLeDiff, Nat.reduceMul, reduceCtorEq]
  refine al_k (nums .u64 (zs 8)) rfl fun w2 n2 => ?_
  simp only [↓EP, EQ, EM, ↓reduceIte, Int.reduceAdd, Int.reduceEq, Int.reduceLE, Int.reduceLT, Int.reduceMul, Int.reduceNeg, Int.reducePow, Int.reduceSub, Int.reduceToNat, Nat.reduceAdd, Nat.reduceEqDiff, Nat.reduceLT, Nat.reduceLeDiff, Nat.reduceMul, reduceCtorEq]
  have s1 := n1.size
  have s2 := n2.size
  have hb2 : Below w.heap.size w w2 := n2.below (by omega) (n1.below (Nat.le_refl _) (Below.refl _ _))
  have hH := n2.keep n1.blk
  have hZ := n2.blk
  rw [s1] at hZ
  refine al_k (nums .u64 (zs 16)) rfl fun w3 n3 => ?_
  simp only [↓EP, EQ, EM, ↓reduceIte, Int.reduceAdd, Int.reduceEq, Int.reduceLE, Int.reduceLT, Int.reduceMul, Int.reduceNeg, Int.reducePow, Int.reduceSub, Int.reduceToNat, Nat.reduceAdd, Nat.reduceEqDiff, Nat.reduceLT, Nat.reduceLeDiff, Nat.reduceMul, reduceCtorEq]
  have s3 := n3.size
  obtain ⟨ad, rfl, had, hc⟩ := hr.get (by simp [nums_length, hp])
  refine loop_inv (fun m ρ w' => ∃ (k : Nat), ρ 13 = .int .i64 k ∧ k ≤ 128 ∧ m = 128 - k ∧ Blk w' w2.heap.size (nums .u64 (rounds (wwStep p) k (zs 16))) ∧ Blk w' w.heap.size (nums .u64 h) ∧ Blk w' (w.heap.size + 1) (nums .u64 (zs 8)) ∧ Below w.heap.size w w') 128 ?_ ?_
  · exact ⟨0, by simp only [↓EP, EQ, EM, ↓reduceIte, Int.reduceAdd, Int.reduceEq, Int.reduceLE, Int.reduceLT, Int.reduceMul, Int.reduceNeg, Int.reducePow, Int.reduceSub, Int.reduceToNat, Nat.reduceAdd, Nat.reduceEqDiff, Nat.reduceLT, Nat.reduceLeDiff, Nat.reduceMul, reduceCtorEq], by omega, by omega, n3.blk, n3.keep hH, n3.keep hZ, n3.below (by omega) hb2⟩
  rintro m ρ w5 hf ⟨k, h13, hk, rfl, hB, hH, hZ, hb5⟩ N hN
  have hc' := hc.below had hb5
  have r0 : ρ 1 = .slice (some ad) 128 cap := by rw [hf 1 rfl]; simp only [↓EP, EQ, EM, ↓reduceIte, Int.reduceAdd, Int.reduceEq, Int.reduceLE, Int.reduceLT, Int.reduceMul, Int.reduceNeg, Int.reducePow, Int.reduceSub, Int.reduceToNat, Nat.reduceAdd, Nat.reduceEqDiff, Nat.reduceLT, Nat.reduceLeDiff, Nat.reduceMul, reduceCtorEq]
  have r2 : ρ 2 = .pointer (some ⟨w.heap.size, 0, none⟩) := by rw [hf 2 rfl]; simp only [↓EP, EQ, EM, ↓reduceIte, Int.reduceAdd, Int.reduceEq, Int.reduceLE, Int.reduceLT, Int.reduceMul, Int.reduceNeg, Int.reducePow, Int.reduceSub, Int.reduceToNat, Nat.reduceAdd, Nat.reduceEqDiff, Nat.reduceLT, Nat.reduceLeDiff, Nat.reduceMul, reduceCtorEq]
  have r4 : ρ 4 = .pointer (some ⟨w1.heap.size, 0, none⟩) := by rw [hf 4 rfl]; simp only [↓EP, EQ, EM, ↓reduceIte, Int.reduceAdd, Int.reduceEq, Int.reduceLE, Int.reduceLT, Int.reduceMul, Int.reduceNeg, Int.reducePow, Int.reduceSub, Int.reduceToNat, Nat.reduceAdd, Nat.reduceEqDiff, Nat.reduceLT, Nat.reduceLeDiff, Nat.reduceMul, reduceCtorEq]
  rw [s1] at r4
  have r5 : ρ 5 = .pointer (some ⟨w2.heap.size, 0, none⟩) := by rw [hf 5 rfl]; simp only [↓EP, EQ, EM, ↓reduceIte, Int.reduceAdd, Int.reduceEq, Int.reduceLE, Int.reduceLT, Int.reduceMul, Int.reduceNeg, Int.reducePow, Int.reduceSub, Int.reduceToNat, Nat.reduceAdd, Nat.reduceEqDiff, Nat.reduceLT, Nat.reduceLeDiff, Nat.reduceMul, reduceCtorEq]
  by_cases hlt : (k : Int) < 128
  · have hp' := fun (j : Nat) (g : j < 128) => hc'.numN (by omega : j < p.length)
    have hl := wwr_len p k
    have hcw := fun (j : Nat) (g : j < 16) => hB.numN (by omega : j < (rounds (wwStep p) k (zs 16)).length)
    simp (disch := omega) only [EO, ↓EP, EQ, EM, ↓reduceIte, Int.reduceAdd, Int.reduceEq, Int.reduceLE, Int.reduceLT, Int.reduceMul, Int.reduceNeg, Int.reducePow, Int.reduceSub, Int.reduceToNat, Nat.reduceAdd, Nat.reduceEqDiff, Nat.reduceLT, Nat.reduceLeDiff, Nat.reduceMul, reduceCtorEq, h13, r0, r2, r5, hp', hcw]
    intro m
    refine st_num (hB.drewN m) (by omega) fun w6 p6 => ?_
    simp (disch := omega) only [EO, ↓EP, EQ, EM, ↓reduceIte, Int.reduceAdd, Int.reduceEq, Int.reduceLE, Int.reduceLT, Int.reduceMul, Int.reduceNeg, Int.reducePow, Int.reduceSub, Int.reduceToNat, Nat.reduceAdd, Nat.reduceEqDiff, Nat.reduceLT, Nat.reduceLeDiff, Nat.reduceMul, reduceCtorEq, h13]
    exact hN (128 - (k + 1)) _ _ (by omega) ⟨k + 1, by simp (disch := omega) only [↓EP, EQ, EM, ↓reduceIte, Int.reduceAdd, Int.reduceEq, Int.reduceLE, Int.reduceLT, Int.reduceMul, Int.reduceNeg, Int.reducePow, Int.reduceSub, Int.reduceToNat, Nat.reduceAdd, Nat.reduceEqDiff, Nat.reduceLT, Nat.reduceLeDiff, Nat.reduceMul, reduceCtorEq, h13, EO, Int.natCast_add], by omega, rfl, p6.blk, p6.keep (by omega) hH, p6.keep (by omega) hZ, p6.below (by omega) (below_drewN' hb5 m)⟩
  have hk16 : k = 128 := by omega
  subst hk16
  have hW : Blk w5 w2.heap.size (nums .u64 (wwords p)) := by unfold wwords; exact hB
  simp (disch := omega) only [EO, ↓EP, EQ, EM, ↓reduceIte, Int.reduceAdd, Int.reduceEq, Int.reduceLE, Int.reduceLT, Int.reduceMul, Int.reduceNeg, Int.reducePow, Int.reduceSub, Int.reduceToNat, Nat.reduceAdd, Nat.reduceEqDiff, Nat.reduceLT, Nat.reduceLeDiff, Nat.reduceMul, reduceCtorEq, h13, r2, r5, r4]
  clear hN hf
  generalize hbw : w2.heap.size = bW at *
  refine hH.ldAgg (by rw [nums_length]; exact hh) ?_
  simp only [↓EP, EQ, EM, ↓reduceIte, Int.reduceAdd, Int.reduceEq, Int.reduceLE, Int.reduceLT, Int.reduceMul, Int.reduceNeg, Int.reducePow, Int.reduceSub, Int.reduceToNat, Nat.reduceAdd, Nat.reduceEqDiff, Nat.reduceLT, Nat.reduceLeDiff, Nat.reduceMul, reduceCtorEq]
  refine al_k (nums .u64 (zs 8)) rfl fun w6 n6 => ?_
  simp only [↓EP, EQ, EM, ↓reduceIte, Int.reduceAdd, Int.reduceEq, Int.reduceLE, Int.reduceLT, Int.reduceMul, Int.reduceNeg, Int.reducePow, Int.reduceSub, Int.reduceToNat, Nat.reduceAdd, Nat.reduceEqDiff, Nat.reduceLT, Nat.reduceLeDiff, Nat.reduceMul, reduceCtorEq]
  have s6 := n6.size
  refine st_whole n6.blk (by rw [nums_length]; exact hh) rfl (nums_one _ _) fun w7 p7 => ?_
  simp only [↓EP, EQ, EM, ↓reduceIte, Int.reduceAdd, Int.reduceEq, Int.reduceLE, Int.reduceLT, Int.reduceMul, Int.reduceNeg, Int.reducePow, Int.reduceSub, Int.reduceToNat, Nat.reduceAdd, Nat.reduceEqDiff, Nat.reduceLT, Nat.reduceLeDiff, Nat.reduceMul, reduceCtorEq]
  have s7 := p7.size
  have ltW := hW.lt
  generalize hbs : w5.heap.size = bS at *
  have hS := p7.blk
  have hH := p7.keep (by omega) (n6.keep hH)
  have hZ := p7.keep (by omega) (n6.keep hZ)
  have hW := p7.keep (by omega) (n6.keep hW)
  have hb7 : Below w.heap.size w w7 := p7.below (by omega) (n6.below (by omega) hb5)
  refine loop_inv (fun m ρ w' => ∃ k : Nat, ρ 32 = .int .i64 k ∧ k ≤ 80 ∧ m = 80 - k ∧ Blk w' w.heap.size (nums .u64 h) ∧ Blk w' (w.heap.size + 1) (nums .u64 (zs 8)) ∧ Blk w' bW (nums .u64 (rounds wideStep k (wideInit h p)).w) ∧ Blk w' bS (nums .u64 (rounds wideStep k (wideInit h p)).s) ∧ Below w.heap.size w w') 80 ?_ ?_
  · exact ⟨0, by simp only [↓EP, EQ, EM, ↓reduceIte, Int.reduceAdd, Int.reduceEq, Int.reduceLE, Int.reduceLT, Int.reduceMul, Int.reduceNeg, Int.reducePow, Int.reduceSub, Int.reduceToNat, Nat.reduceAdd, Nat.reduceEqDiff, Nat.reduceLT, Nat.reduceLeDiff, Nat.reduceMul, reduceCtorEq], by omega, by omega, hH, hZ, hW, hS, hb7⟩
  rintro m ρ' w' hf ⟨k, hrg, hk, rfl, hH, hZ, hW, hS, hb⟩ N hN
  have r2 : ρ' 2 = .pointer (some ⟨w.heap.size, 0, none⟩) := by rw [hf 2 rfl]; simp only [↓EP, EQ, EM, ↓reduceIte, Int.reduceAdd, Int.reduceEq, Int.reduceLE, Int.reduceLT, Int.reduceMul, Int.reduceNeg, Int.reducePow, Int.reduceSub, Int.reduceToNat, Nat.reduceAdd, Nat.reduceEqDiff, Nat.reduceLT, Nat.reduceLeDiff, Nat.reduceMul, reduceCtorEq, r2, r4, r5]
  have r4 : ρ' 4 = .pointer (some ⟨w.heap.size + 1, 0, none⟩) := by rw [hf 4 rfl]; simp only [↓EP, EQ, EM, ↓reduceIte, Int.reduceAdd, Int.reduceEq, Int.reduceLE, Int.reduceLT, Int.reduceMul, Int.reduceNeg, Int.reducePow, Int.reduceSub, Int.reduceToNat, Nat.reduceAdd, Nat.reduceEqDiff, Nat.reduceLT, Nat.reduceLeDiff, Nat.reduceMul, reduceCtorEq, r2, r4, r5, s1]
  have r5 : ρ' 5 = .pointer (some ⟨bW, 0, none⟩) := by rw [hf 5 rfl]; simp only [↓EP, EQ, EM, ↓reduceIte, Int.reduceAdd, Int.reduceEq, Int.reduceLE, Int.reduceLT, Int.reduceMul, Int.reduceNeg, Int.reducePow, Int.reduceSub, Int.reduceToNat, Nat.reduceAdd, Nat.reduceEqDiff, Nat.reduceLT, Nat.reduceLeDiff, Nat.reduceMul, reduceCtorEq, r2, r4, r5, hbw]
  have r6 : ρ' 7 = .pointer (some ⟨bS, 0, none⟩) := by rw [hf 7 rfl]; simp only [↓EP, EQ, EM, ↓reduceIte, Int.reduceAdd, Int.reduceEq, Int.reduceLE, Int.reduceLT, Int.reduceMul, Int.reduceNeg, Int.reducePow, Int.reduceSub, Int.reduceToNat, Nat.reduceAdd, Nat.reduceEqDiff, Nat.reduceLT, Nat.reduceLeDiff, Nat.reduceMul, reduceCtorEq, r2, r4, r5, hbs]
  have hwl : (rounds wideStep k (wideInit h p)).w.length = 16 := by rw [wide_wlen]; exact wwords_len p
  have hsl : (rounds wideStep k (wideInit h p)).s.length = 8 := wide_slen _ hh k
  have hT' := hT.below hg hb
  have htl := k512_len
  have hct := fun (j : Nat) (g : j < 80) => hT'.numN (by omega : j < k512.length)
  have hct' : ∀ j : Nat, j < 80 → w'.cell? ⟨1, j, none⟩ = some (.int .u64 (at' k512 j)) := fun j g => by have := hct j g; rwa [Addr.add_lit, Nat.zero_add] at this
  clear hf
  generalize hst : rounds wideStep k (wideInit h p) = st at *
  have hcs := fun (j : Nat) (g : j < 8) => hS.numN (by omega : j < st.s.length)
  by_cases hlt : (k : Int) < 80
  · have fin : ∀ (w6 : World) (ρ6 : Env), ρ6 32 = .int .i64 ((k + 1 : Nat) : Int) →
        Blk w6 w.heap.size (nums .u64 h) → Blk w6 (w.heap.size + 1) (nums .u64 (zs 8)) → Blk w6 bW (nums .u64 (wideStep k st).w) → Blk w6 bS (nums .u64 (wideStep k st).s) → Below w.heap.size w w6 → endK N ρ6 w6 := by
      intro w6 ρ6 g1 g2 g3 g4 g5 g6
      refine hN (80 - (k + 1)) _ _ (by omega) ⟨k + 1, g1, by omega, rfl, ?_⟩
      rw [rounds, hst]
      exact ⟨g2, g3, g4, g5, g6⟩
    simp only [wideStep] at fin
    generalize hw7 : wideW k st.w = W at fin
    by_cases h16 : (k : Int) < 16
    · rw [wideW, if_pos h16] at hw7
      subst hw7
      generalize hw8 : st.w = W at *
      have hcw := fun (j : Nat) (g : j < 16) => hW.numN (by omega : j < W.length)
      simp (disch := omega) only [EO, ↓EP, EQ, EM, ↓reduceIte, Int.reduceAdd, Int.reduceEq, Int.reduceLE, Int.reduceLT, Int.reduceMul, Int.reduceNeg, Int.reducePow, Int.reduceSub, Int.reduceToNat, Nat.reduceAdd, Nat.reduceEqDiff, Nat.reduceLT, Nat.reduceLeDiff, Nat.reduceMul, reduceCtorEq, W_join, hrg, r2, r4, r5, r6, hcw, hcs, hct']
      refine wturns_q _ 14 18 41 false (by omega) (by omega) (by omega) (by omega) (by omega) (by omega) _ _ ?_
      simp (disch := omega) only [EO, ↓EP, EQ, EM, ↓reduceIte, Int.reduceAdd, Int.reduceEq, Int.reduceLE, Int.reduceLT, Int.reduceMul, Int.reduceNeg, Int.reducePow, Int.reduceSub, Int.reduceToNat, Nat.reduceAdd, Nat.reduceEqDiff, Nat.reduceLT, Nat.reduceLeDiff, Nat.reduceMul, reduceCtorEq, hrg, r2, r4, r5, r6, hcw, hcs, hct']
      intro m1
      refine wturns_q _ 28 34 39 false (by omega) (by omega) (by omega) (by omega) (by omega) (by omega) _ _ ?_
      simp (disch := omega) only [EO, ↓EP, EQ, EM, ↓reduceIte, Int.reduceAdd, Int.reduceEq, Int.reduceLE, Int.reduceLT, Int.reduceMul, Int.reduceNeg, Int.reducePow, Int.reduceSub, Int.reduceToNat, Nat.reduceAdd, Nat.reduceEqDiff, Nat.reduceLT, Nat.reduceLeDiff, Nat.reduceMul, reduceCtorEq, hrg, r2, r4, r5, r6, hcw, hcs, hct']
      intro m2
      have hfill : fillL [(0, 1), (1, 1), (2, 1), (3, 1), (4, 1), (5, 1), (6, 1), (7, 1)] (Array.replicate 8 (Value.int IntKind.u64 0)) [(0, Value.int IntKind.u64 (s64 (wideX k W st.s) (wideY st.s))), (1, Value.int IntKind.u64 (at' st.s 0)), (2, Value.int IntKind.u64 (at' st.s 1)), (3, Value.int IntKind.u64 (at' st.s 2)), (4, Value.int IntKind.u64 (s64 (at' st.s 3) (wideX k W st.s))), (5, Value.int IntKind.u64 (at' st.s 4)), (6, Value.int IntKind.u64 (at' st.s 5)), (7, Value.int IntKind.u64 (at' st.s 6))] = some (nums .u64 (wideS (wideX k W st.s) (wideY st.s) st.s)).toArray := fill8 _ _ _ _ _ _ _ _ _
      refine ⟨_, hfill, ?_⟩
      simp (disch := omega) only [EO, ↓EP, EQ, EM, ↓reduceIte, Int.reduceAdd, Int.reduceEq, Int.reduceLE, Int.reduceLT, Int.reduceMul, Int.reduceNeg, Int.reducePow, Int.reduceSub, Int.reduceToNat, Nat.reduceAdd, Nat.reduceEqDiff, Nat.reduceLT, Nat.reduceLeDiff, Nat.reduceMul, reduceCtorEq, hrg, r2, r4, r5, r6, hcw, hcs, hct']
      refine st_whole (hS.drewN _) (by rw [nums_length]; rfl) (by rw [nums_length]; exact hsl) (nums_one _ _) fun w9 p9 => ?_
      simp (disch := omega) only [EO, ↓EP, EQ, EM, ↓reduceIte, Int.reduceAdd, Int.reduceEq, Int.reduceLE, Int.reduceLT, Int.reduceMul, Int.reduceNeg, Int.reducePow, Int.reduceSub, Int.reduceToNat, Nat.reduceAdd, Nat.reduceEqDiff, Nat.reduceLT, Nat.reduceLeDiff, Nat.reduceMul, reduceCtorEq, hrg, r2, r4, r5, r6, hcw, hcs, hct']
      exact fin _ _ (by simp (disch := omega) only [EO, ↓EP, EQ, EM, ↓reduceIte, Int.reduceAdd, Int.reduceEq, Int.reduceLE, Int.reduceLT, Int.reduceMul, Int.reduceNeg, Int.reducePow, Int.reduceSub, Int.reduceToNat, Nat.reduceAdd, Nat.reduceEqDiff, Nat.reduceLT, Nat.reduceLeDiff, Nat.reduceMul, reduceCtorEq, hrg, r2, r4, r5, r6, hcw, hcs, hct', Int.natCast_add]) (p9.keep (by omega) hH) (p9.keep (by omega) hZ) (p9.keep (by omega) hW) p9.blk (p9.below (by omega) (below_drewN' hb _))
    · rw [wideW, if_neg h16] at hw7
      have hcw := fun (j : Nat) (g : j < 16) => hW.numN (by omega : j < st.w.length)
      simp (disch := omega) only [EO, ↓EP, EQ, EM, ↓reduceIte, Int.reduceAdd, Int.reduceEq, Int.reduceLE, Int.reduceLT, Int.reduceMul, Int.reduceNeg, Int.reducePow, Int.reduceSub, Int.reduceToNat, Nat.reduceAdd, Nat.reduceEqDiff, Nat.reduceLT, Nat.reduceLeDiff, Nat.reduceMul, reduceCtorEq, W_join, hrg, r2, r4, r5, r6, hcw, hcs, hct']
      refine wturns_q _ 19 61 6 true (by omega) (by omega) (by omega) (by omega) (by omega) (by omega) _ _ ?_
      simp (disch := omega) only [EO, ↓EP, EQ, EM, ↓reduceIte, Int.reduceAdd, Int.reduceEq, Int.reduceLE, Int.reduceLT, Int.reduceMul, Int.reduceNeg, Int.reducePow, Int.reduceSub, Int.reduceToNat, Nat.reduceAdd, Nat.reduceEqDiff, Nat.reduceLT, Nat.reduceLeDiff, Nat.reduceMul, reduceCtorEq, hrg, r2, r4, r5, r6, hcw, hcs, hct']
      refine wturns_q _ 1 8 7 true (by omega) (by omega) (by omega) (by omega) (by omega) (by omega) _ _ ?_
      simp (disch := omega) only [EO, ↓EP, EQ, EM, ↓reduceIte, Int.reduceAdd, Int.reduceEq, Int.reduceLE, Int.reduceLT, Int.reduceMul, Int.reduceNeg, Int.reducePow, Int.reduceSub, Int.reduceToNat, Nat.reduceAdd, Nat.reduceEqDiff, Nat.reduceLT, Nat.reduceLeDiff, Nat.reduceMul, reduceCtorEq, hrg, r2, r4, r5, r6, hcw, hcs, hct']
      intro m0
      refine st_num (hW.drewN m0) (by rw [hwl]; omega) fun w8 p8 => ?_
      have hw7 : st.w.set ((k : Int) % 16).toNat (s64 (at' st.w ((k : Int) % 16)) (s64 (s64 (tn64 (at' st.w ((((k : Int) % 16) + 14) % 16)) 19 61 6 true) (at' st.w ((((k : Int) % 16) + 9) % 16))) (tn64 (at' st.w ((((k : Int) % 16) + 1) % 16)) 1 8 7 true))) = W := hw7
      have p8 : Put (w'.drewN m0) w8 bW (nums .u64 W) := by rw [← hw7]; exact p8
      have hWl : W.length = 16 := by subst hw7; simp [hwl]
      have hcW := fun (j : Nat) (g : j < 16) => p8.blk.numN (by omega : j < W.length)
      have hH := p8.keep (by omega) (hH.drewN m0)
      have hZ := p8.keep (by omega) (hZ.drewN m0)
      have hS := p8.keep (by omega) (hS.drewN m0)
      have hcs' := fun (j : Nat) (g : j < 8) => hS.numN (by omega : j < st.s.length)
      have hb := p8.below (by omega) (below_drewN' hb m0)
      have hT' := hT.below hg hb
      have hct := fun (j : Nat) (g : j < 80) => hT'.numN (by omega : j < k512.length)
      have hct' : ∀ j : Nat, j < 80 → w8.cell? ⟨1, j, none⟩ = some (.int .u64 (at' k512 j)) := fun j g => by have := hct j g; rwa [Addr.add_lit, Nat.zero_add] at this
      clear hcw hw7 hcs
      simp (disch := omega) only [EO, ↓EP, EQ, EM, ↓reduceIte, Int.reduceAdd, Int.reduceEq, Int.reduceLE, Int.reduceLT, Int.reduceMul, Int.reduceNeg, Int.reducePow, Int.reduceSub, Int.reduceToNat, Nat.reduceAdd, Nat.reduceEqDiff, Nat.reduceLT, Nat.reduceLeDiff, Nat.reduceMul, reduceCtorEq, hrg, r2, r4, r5, r6, hcW, hcs', hct']
      refine wturns_q _ 14 18 41 false (by omega) (by omega) (by omega) (by omega) (by omega) (by omega) _ _ ?_
      simp (disch := omega) only [EO, ↓EP, EQ, EM, ↓reduceIte, Int.reduceAdd, Int.reduceEq, Int.reduceLE, Int.reduceLT, Int.reduceMul, Int.reduceNeg, Int.reducePow, Int.reduceSub, Int.reduceToNat, Nat.reduceAdd, Nat.reduceEqDiff, Nat.reduceLT, Nat.reduceLeDiff, Nat.reduceMul, reduceCtorEq, hrg, r2, r4, r5, r6, hcW, hcs', hct']
      intro m1
      refine wturns_q _ 28 34 39 false (by omega) (by omega) (by omega) (by omega) (by omega) (by omega) _ _ ?_
      simp (disch := omega) only [EO, ↓EP, EQ, EM, ↓reduceIte, Int.reduceAdd, Int.reduceEq, Int.reduceLE, Int.reduceLT, Int.reduceMul, Int.reduceNeg, Int.reducePow, Int.reduceSub, Int.reduceToNat, Nat.reduceAdd, Nat.reduceEqDiff, Nat.reduceLT, Nat.reduceLeDiff, Nat.reduceMul, reduceCtorEq, hrg, r2, r4, r5, r6, hcW, hcs', hct']
      intro m2
      have hfill : fillL [(0, 1), (1, 1), (2, 1), (3, 1), (4, 1), (5, 1), (6, 1), (7, 1)] (Array.replicate 8 (Value.int IntKind.u64 0)) [(0, Value.int IntKind.u64 (s64 (wideX k W st.s) (wideY st.s))), (1, Value.int IntKind.u64 (at' st.s 0)), (2, Value.int IntKind.u64 (at' st.s 1)), (3, Value.int IntKind.u64 (at' st.s 2)), (4, Value.int IntKind.u64 (s64 (at' st.s 3) (wideX k W st.s))), (5, Value.int IntKind.u64 (at' st.s 4)), (6, Value.int IntKind.u64 (at' st.s 5)), (7, Value.int IntKind.u64 (at' st.s 6))] = some (nums .u64 (wideS (wideX k W st.s) (wideY st.s) st.s)).toArray := fill8 _ _ _ _ _ _ _ _ _
      refine ⟨_, hfill, ?_⟩
      simp (disch := omega) only [EO, ↓EP, EQ, EM, ↓reduceIte, Int.reduceAdd, Int.reduceEq, Int.reduceLE, Int.reduceLT, Int.reduceMul, Int.reduceNeg, Int.reducePow, Int.reduceSub, Int.reduceToNat, Nat.reduceAdd, Nat.reduceEqDiff, Nat.reduceLT, Nat.reduceLeDiff, Nat.reduceMul, reduceCtorEq, hrg, r2, r4, r5, r6, hcW, hcs', hct']
      refine st_whole (hS.drewN _) (by rw [nums_length]; rfl) (by rw [nums_length]; exact hsl) (nums_one _ _) fun w9 p9 => ?_
      simp (disch := omega) only [EO, ↓EP, EQ, EM, ↓reduceIte, Int.reduceAdd, Int.reduceEq, Int.reduceLE, Int.reduceLT, Int.reduceMul, Int.reduceNeg, Int.reducePow, Int.reduceSub, Int.reduceToNat, Nat.reduceAdd, Nat.reduceEqDiff, Nat.reduceLT, Nat.reduceLeDiff, Nat.reduceMul, reduceCtorEq, hrg, r2, r4, r5, r6, hcW, hcs', hct']
      exact fin _ _ (by simp (disch := omega) only [EO, ↓EP, EQ, EM, ↓reduceIte, Int.reduceAdd, Int.reduceEq, Int.reduceLE, Int.reduceLT, Int.reduceMul, Int.reduceNeg, Int.reducePow, Int.reduceSub, Int.reduceToNat, Nat.reduceAdd, Nat.reduceEqDiff, Nat.reduceLT, Nat.reduceLeDiff, Nat.reduceMul, reduceCtorEq, hrg, r2, r4, r5, r6, hcW, hcs', hct', Int.natCast_add]) (p9.keep (by omega) hH) (p9.keep (by omega) hZ) (p9.keep (by omega) p8.blk) p9.blk (p9.below (by omega) (below_drewN' hb _))
  have hkR : k = 80 := by omega
  subst hkR
  have e1 : st.s = (rounds wideStep 80 (wideInit h p)).s := by rw [hst]
  rw [e1] at hS hcs hsl
  simp (disch := omega) only [EO, ↓EP, EQ, EM, ↓reduceIte, Int.reduceAdd, Int.reduceEq, Int.reduceLE, Int.reduceLT, Int.reduceMul, Int.reduceNeg, Int.reducePow, Int.reduceSub, Int.reduceToNat, Nat.reduceAdd, Nat.reduceEqDiff, Nat.reduceLT, Nat.reduceLeDiff, Nat.reduceMul, reduceCtorEq, hrg, r2, r4, r5, r6]
  clear hN hst e1 hcs hW hct hct' hT'
  refine loop_inv (fun m ρ w' => ∃ k : Nat, ρ 128 = .int .i64 k ∧ k ≤ 8 ∧ m = 8 - k ∧ Blk w' w.heap.size (nums .u64 h) ∧ Blk w' (w.heap.size + 1) (nums .u64 (zs 8)) ∧ Blk w' bS (nums .u64 (rounds (wideAdd h) k (rounds wideStep 80 (wideInit h p)).s)) ∧ Below w.heap.size w w') 8 ?_ ?_
  · exact ⟨0, by simp only [↓EP, EQ, EM, ↓reduceIte, Int.reduceAdd, Int.reduceEq, Int.reduceLE, Int.reduceLT, Int.reduceMul, Int.reduceNeg, Int.reducePow, Int.reduceSub, Int.reduceToNat, Nat.reduceAdd, Nat.reduceEqDiff, Nat.reduceLT, Nat.reduceLeDiff, Nat.reduceMul, reduceCtorEq], by omega, by omega, hH, hZ, hS, hb⟩
  rintro m ρ2 w8 hf ⟨k, hrg2, hk, rfl, hH, hZ, hS, hb⟩ N hN
  have r2 : ρ2 2 = .pointer (some ⟨w.heap.size, 0, none⟩) := by rw [hf 2 rfl]; simp only [↓EP, EQ, EM, ↓reduceIte, Int.reduceAdd, Int.reduceEq, Int.reduceLE, Int.reduceLT, Int.reduceMul, Int.reduceNeg, Int.reducePow, Int.reduceSub, Int.reduceToNat, Nat.reduceAdd, Nat.reduceEqDiff, Nat.reduceLT, Nat.reduceLeDiff, Nat.reduceMul, reduceCtorEq, r2]
  have r4 : ρ2 4 = .pointer (some ⟨w.heap.size + 1, 0, none⟩) := by rw [hf 4 rfl]; simp only [↓EP, EQ, EM, ↓reduceIte, Int.reduceAdd, Int.reduceEq, Int.reduceLE, Int.reduceLT, Int.reduceMul, Int.reduceNeg, Int.reducePow, Int.reduceSub, Int.reduceToNat, Nat.reduceAdd, Nat.reduceEqDiff, Nat.reduceLT, Nat.reduceLeDiff, Nat.reduceMul, reduceCtorEq, r4]
  have r6 : ρ2 7 = .pointer (some ⟨bS, 0, none⟩) := by rw [hf 7 rfl]; simp only [↓EP, EQ, EM, ↓reduceIte, Int.reduceAdd, Int.reduceEq, Int.reduceLE, Int.reduceLT, Int.reduceMul, Int.reduceNeg, Int.reducePow, Int.reduceSub, Int.reduceToNat, Nat.reduceAdd, Nat.reduceEqDiff, Nat.reduceLT, Nat.reduceLeDiff, Nat.reduceMul, reduceCtorEq, r6]
  have hal := wide_alen h (rounds wideStep 80 (wideInit h p)).s k
  clear hf
  by_cases hlt : (k : Int) < 8
  · generalize hst : rounds (wideAdd h) k (rounds wideStep 80 (wideInit h p)).s = S at *
    have hcs := fun (j : Nat) (g : j < 8) => hS.numN (by omega : j < S.length)
    have hch := fun (j : Nat) (g : j < 8) => hH.numN (by omega : j < h.length)
    simp (disch := omega) only [EO, ↓EP, EQ, EM, ↓reduceIte, Int.reduceAdd, Int.reduceEq, Int.reduceLE, Int.reduceLT, Int.reduceMul, Int.reduceNeg, Int.reducePow, Int.reduceSub, Int.reduceToNat, Nat.reduceAdd, Nat.reduceEqDiff, Nat.reduceLT, Nat.reduceLeDiff, Nat.reduceMul, reduceCtorEq, hrg2, r2, r4, r6, hcs, hch]
    intro m
    refine st_num (hS.drewN m) (by omega) fun w9 p9 => ?_
    simp (disch := omega) only [EO, ↓EP, EQ, EM, ↓reduceIte, Int.reduceAdd, Int.reduceEq, Int.reduceLE, Int.reduceLT, Int.reduceMul, Int.reduceNeg, Int.reducePow, Int.reduceSub, Int.reduceToNat, Nat.reduceAdd, Nat.reduceEqDiff, Nat.reduceLT, Nat.reduceLeDiff, Nat.reduceMul, reduceCtorEq, hrg2]
    refine hN (8 - (k + 1)) _ _ (by omega) ⟨k + 1, by simp (disch := omega) only [↓EP, EQ, EM, ↓reduceIte, Int.reduceAdd, Int.reduceEq, Int.reduceLE, Int.reduceLT, Int.reduceMul, Int.reduceNeg, Int.reducePow, Int.reduceSub, Int.reduceToNat, Nat.reduceAdd, Nat.reduceEqDiff, Nat.reduceLT, Nat.reduceLeDiff, Nat.reduceMul, reduceCtorEq, hrg2, EO, Int.natCast_add], by omega, rfl, p9.keep (by omega) hH, p9.keep (by omega) hZ, ?_, p9.below (by omega) (below_drewN' hb m)⟩
    rw [rounds, hst]
    exact p9.blk
  · have hk8 : k = 8 := by omega
    subst hk8
    have hS : Blk w8 bS (nums .u64 (wide h p)) := hS
    have h8 : (nums .u64 (wide h p)).length = 8 := by rw [nums_length]; exact wide_len h p hh
    simp (disch := omega) only [EO, ↓EP, EQ, EM, ↓reduceIte, Int.reduceAdd, Int.reduceEq, Int.reduceLE, Int.reduceLT, Int.reduceMul, Int.reduceNeg, Int.reducePow, Int.reduceSub, Int.reduceToNat, Nat.reduceAdd, Nat.reduceEqDiff, Nat.reduceLT, Nat.reduceLeDiff, Nat.reduceMul, reduceCtorEq, hrg2, r2, r4, r6]
    refine hS.ldAgg h8 ?_
    simp only [↓EP, EQ, EM, ↓reduceIte, Int.reduceAdd, Int.reduceEq, Int.reduceLE, Int.reduceLT, Int.reduceMul, Int.reduceNeg, Int.reducePow, Int.reduceSub, Int.reduceToNat, Nat.reduceAdd, Nat.reduceEqDiff, Nat.reduceLT, Nat.reduceLeDiff, Nat.reduceMul, reduceCtorEq, r2, r4, r6]
    refine st_whole hZ h8 rfl (nums_one _ _) fun w10 p10 => ?_
    simp only [↓EP, EQ, EM, ↓reduceIte, Int.reduceAdd, Int.reduceEq, Int.reduceLE, Int.reduceLT, Int.reduceMul, Int.reduceNeg, Int.reducePow, Int.reduceSub, Int.reduceToNat, Nat.reduceAdd, Nat.reduceEqDiff, Nat.reduceLT, Nat.reduceLeDiff, Nat.reduceMul, reduceCtorEq, r2, r4, r6]
    exact p10.blk.ldAgg h8 (hK _ (p10.below (by omega) hb))
attribute [irreducible] wide
end Go.Proofs.YtibccpfocbdmaaaDoor.Spec
