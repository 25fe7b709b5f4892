/- The helpers of the statements: bytes that are written over. -/
import Derived.Test.YtibccpfocbdmaaaDoorRefB
set_option linter.unusedVariables false
set_option linter.unusedSimpArgs false
namespace Go.Proofs.YtibccpfocbdmaaaDoor.Spec
open Go Go.RowKit Go.Proofs Go.Proofs.YtibccpfocbdmaaaDoor.Eng Go.Proofs.YtibccpfocbdmaaaDoor.Code
set_option maxRecDepth 100000

def spoilt (l : List Int) : List Int := l.map fun x => bits .xor .u8 x 60
theorem spoil_step (l r : List Int) (k : Nat) (h : k < l.length) : (spoilt (l.take k) ++ l.drop k ++ r).set k (bits .xor .u8 (at' l k) 60) = spoilt (l.take (k + 1)) ++ l.drop (k + 1) ++ r := by
  have hk : (spoilt (l.take k)).length = k := by simp [spoilt]; omega
  rw [List.append_assoc, List.set_append_right _ _ (by omega), hk, Nat.sub_self, List.drop_eq_getElem_cons h]
  simp only [List.cons_append, List.set_cons_zero]
  rw [List.take_add_one, List.getElem?_eq_getElem h]
  have e : at' l k = l[k] := by simp [at', h]
  rw [e]
  simp only [spoilt, Option.toList_some, List.map_append, List.map_cons, List.map_nil, List.append_assoc, List.cons_append, List.nil_append]
theorem spoil_spec {w : World} {v : Value} {l : List Int} (hl : Sl .u8 w v l) (h63 : l.length ≤ 4611686018427387904) (K : Value → World → Prop)
    (hK : ∀ w', Sl .u8 w' v (spoilt l) → Fr w w' (fun b => blkOf v = some b) → K (.tuple #[]) w') : callK Tryd.prog 25 [v] w K := by
  refine call_of Tryd.func25 Code.h25 (by simp [Code.c25]) ?_
  rcases hl with ⟨rfl, rfl⟩ | ⟨b, pad, rfl, hB⟩
  · simp (disch := omega) only [EO, ↓EP, EQ, EM, ↓reduceIte, Int.reduceAdd, Int.reduceEq, Int.reduceLE, Int.reduceLT, Int.reduceMul, Int.reduceNeg, Int.reducePow, Int.reduceSub, Int.reduceToNat, Nat.reduceAdd, Nat.reduceEqDiff, Nat.reduceLT, Nat.reduceLeDiff, Nat.reduceMul, reduceCtorEq, Code.c25]
    refine loop_inv (fun t ρ w' => w' = w ∧ ρ 2 = .int .i64 0) 0 ⟨rfl, by simp (disch := omega) only [EO, ↓EP, EQ, EM, ↓reduceIte, Int.reduceAdd, Int.reduceEq, Int.reduceLE, Int.reduceLT, Int.reduceMul, Int.reduceNeg, Int.reducePow, Int.reduceSub, Int.reduceToNat, Nat.reduceAdd, Nat.reduceEqDiff, Nat.reduceLT, Nat.reduceLeDiff, Nat.reduceMul, reduceCtorEq]⟩ ?_
    rintro t ρ w' hf ⟨rfl, h2⟩ N hN
    have r0 : ρ 0 = .slice none 0 0 := by rw [hf 0 rfl]; simp only [↓EP, EQ, EM, ↓reduceIte, Int.reduceAdd, Int.reduceEq, Int.reduceLE, Int.reduceLT, Int.reduceMul, Int.reduceNeg, Int.reducePow, Int.reduceSub, Int.reduceToNat, Nat.reduceAdd, Nat.reduceEqDiff, Nat.reduceLT, Nat.reduceLeDiff, Nat.reduceMul, reduceCtorEq]
    simp (disch := omega) only [EO, ↓EP, EQ, EM, ↓reduceIte, Int.reduceAdd, Int.reduceEq, Int.reduceLE, Int.reduceLT, Int.reduceMul, Int.reduceNeg, Int.reducePow, Int.reduceSub, Int.reduceToNat, Nat.reduceAdd, Nat.reduceEqDiff, Nat.reduceLT, Nat.reduceLeDiff, Nat.reduceMul, reduceCtorEq, h2, r0]
    exact hK w' (Sl.nil _ _) (Fr.refl _ _)
  · simp (disch := omega) only [EO, ↓EP, EQ, EM, ↓reduceIte, Int.reduceAdd, Int.reduceEq, Int.reduceLE, Int.reduceLT, Int.reduceMul, Int.reduceNeg, Int.reducePow, Int.reduceSub, Int.reduceToNat, Nat.reduceAdd, Nat.reduceEqDiff, Nat.reduceLT, Nat.reduceLeDiff, Nat.reduceMul, reduceCtorEq, Code.c25]
    refine loop_inv (fun t ρ w' => ∃ k : Nat, ρ 2 = .int .i64 k ∧ k ≤ l.length ∧ t = l.length - k ∧ Blk w' b (nums .u8 (spoilt (l.take k) ++ l.drop k ++ pad)) ∧ Fr w w' (fun x => x = b)) _ ⟨0, by simp (disch := omega) only [EO, ↓EP, EQ, EM, ↓reduceIte, Int.reduceAdd, Int.reduceEq, Int.reduceLE, Int.reduceLT, Int.reduceMul, Int.reduceNeg, Int.reducePow, Int.reduceSub, Int.reduceToNat, Nat.reduceAdd, Nat.reduceEqDiff, Nat.reduceLT, Nat.reduceLeDiff, Nat.reduceMul, reduceCtorEq], by omega, rfl, by simpa [spoilt] using hB, Fr.refl _ _⟩ ?_
    rintro t ρ w' hf ⟨k, h2, hk, rfl, hB', f⟩ N hN
    have r0 : ρ 0 = .slice (some ⟨b, 0, none⟩) l.length (l.length + pad.length) := by rw [hf 0 rfl]; simp only [↓EP, EQ, EM, ↓reduceIte, Int.reduceAdd, Int.reduceEq, Int.reduceLE, Int.reduceLT, Int.reduceMul, Int.reduceNeg, Int.reducePow, Int.reduceSub, Int.reduceToNat, Nat.reduceAdd, Nat.reduceEqDiff, Nat.reduceLT, Nat.reduceLeDiff, Nat.reduceMul, reduceCtorEq]
    clear hf
    have hlen : (spoilt (l.take k) ++ l.drop k ++ pad).length = l.length + pad.length := by simp [spoilt]; omega
    by_cases hkl : (k : Int) < (l.length : Int)
    · have c0 := hB'.numN (j := k) (by omega)
      have e0 : at' (spoilt (l.take k) ++ l.drop k ++ pad) k = at' l k := by
        unfold at'
        rw [Int.toNat_natCast, List.getD_eq_getElem?_getD, List.append_assoc, List.getElem?_append_right (by simp [spoilt]; omega), List.getElem?_append_left (by simp [spoilt]; omega)]
        simp [spoilt, List.getElem?_drop, Nat.min_eq_left hk]
      rw [e0] at c0
      simp (disch := omega) only [EO, ↓EP, EQ, EM, ↓reduceIte, Int.reduceAdd, Int.reduceEq, Int.reduceLE, Int.reduceLT, Int.reduceMul, Int.reduceNeg, Int.reducePow, Int.reduceSub, Int.reduceToNat, Nat.reduceAdd, Nat.reduceEqDiff, Nat.reduceLT, Nat.reduceLeDiff, Nat.reduceMul, reduceCtorEq, h2, r0, c0]
      refine st_num hB' (by omega) fun w2 p2 => ?_
      rw [spoil_step l pad k (by omega)] at p2
      simp (disch := omega) only [EO, ↓EP, EQ, EM, ↓reduceIte, Int.reduceAdd, Int.reduceEq, Int.reduceLE, Int.reduceLT, Int.reduceMul, Int.reduceNeg, Int.reducePow, Int.reduceSub, Int.reduceToNat, Nat.reduceAdd, Nat.reduceEqDiff, Nat.reduceLT, Nat.reduceLeDiff, Nat.reduceMul, reduceCtorEq, h2]
      exact hN (l.length - (k + 1)) _ _ (by omega) ⟨k + 1, by simp (disch := omega) only [EO, ↓EP, EQ, EM, ↓reduceIte, Int.reduceAdd, Int.reduceEq, Int.reduceLE, Int.reduceLT, Int.reduceMul, Int.reduceNeg, Int.reducePow, Int.reduceSub, Int.reduceToNat, Nat.reduceAdd, Nat.reduceEqDiff, Nat.reduceLT, Nat.reduceLeDiff, Nat.reduceMul, reduceCtorEq, h2, Int.natCast_add], by omega, rfl, p2.blk, f.trans p2.fr fun _ _ x => x⟩
    · simp (disch := omega) only [EO, ↓EP, EQ, EM, ↓reduceIte, Int.reduceAdd, Int.reduceEq, Int.reduceLE, Int.reduceLT, Int.reduceMul, Int.reduceNeg, Int.reducePow, Int.reduceSub, Int.reduceToNat, Nat.reduceAdd, Nat.reduceEqDiff, Nat.reduceLT, Nat.reduceLeDiff, Nat.reduceMul, reduceCtorEq, h2, r0]
      have hkl : k = l.length := by omega
      subst hkl
      refine hK w' (.inr ⟨b, pad, by simp [spoilt], by simpa using hB'⟩) (f.mono fun x _ e => by subst e; rfl)
end Go.Proofs.YtibccpfocbdmaaaDoor.Spec
