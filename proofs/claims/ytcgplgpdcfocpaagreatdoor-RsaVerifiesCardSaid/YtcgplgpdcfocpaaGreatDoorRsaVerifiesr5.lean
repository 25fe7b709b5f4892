/- RsaVerifies: the row and the tied card: whatever the key, the digest and the signature, the program's Verify answers as the document's, and the bytes stay; no condition. -/
import Derived.Test.YtcgplgpdcfocpaaGreatDoorCards
import Derived.Test.YtcgplgpdcfocpaaGreatDoorTie
import Derived.SevenTiedAt
import Derived.Test.YtcgplgpdcfocpaaGreatDoorRsaVerifiesr4
set_option linter.unusedVariables false
set_option linter.unusedSimpArgs false
open Int renaming reduceAdd → Za, reduceEq → Zb, reduceLE → Zc, reduceLT → Zd, reduceMul → Ze, reduceNeg → Zf, reducePow → Zg, reduceSub → Zj, reduceToNat → Zk
open Nat renaming reduceAdd → Zl, reduceEqDiff → Zm, reduceLT → Zn, reduceLeDiff → Zp, reduceMul → Zq
section
set_option linter.unusedVariables false
set_option linter.unusedSimpArgs false
namespace Go.Proofs.YtcgplgpdcfocpaaGreatDoor.Der
open Go Go.RowKit Go.Proofs Go.Proofs.YtcgplgpdcfocpaaGreatDoor.Eng Go.Proofs.YtcgplgpdcfocpaaGreatDoor.Code
set_option maxRecDepth 100000
attribute [local irreducible] callK S.W opsW scrW scrT
open Go.Proofs.YtcgplgpdcfocpaaGreatDoor.Spec Go.Proofs.YtcgplgpdcfocpaaGreatDoor.Big
attribute [local irreducible] checkR powR tbR fbR
def rawR (N E sig : List Int) : List Int × Int :=
  if sizeK N E = 0 then ([], 80) else if (sig.length : Int) ≠ sizeK N E then ([], 112) else if ¬ val (fbR sig).1 < val N then ([], 112) else ((tbR (powR (fbR sig).1 E N).1 (sizeK N E)).1, 0)
theorem fb_lim (l : List Int) : Lim (fbR l).1 := by
  unfold fbR
  split
  · exact Lim.nil
  · exact limbs_lim _
theorem pow_lim (b e m : List Int) : Lim (powR b e m).1 := by
  unfold powR
  repeat' split
  · exact Lim.nil
  · exact Lim.nil
  · exact limbs_lim _
theorem fb_len (l : List Int) (h : Byt l) : (fbR l).1.length ≤ 512 := by
  unfold fbR
  split
  · simp
  · rename_i hl
    show (limbs (bv l)).length ≤ 512
    rw [limbs_len (bv_bd h).1]
    refine Int.lt_of_lt_of_le (bv_bd h).2 ?_
    rw [p8_pw, p8_p2, p8_p2]
    exact p2_mono (by omega)
theorem size_bd {N E : List Int} (lN : Lim N) : 0 ≤ sizeK N E ∧ sizeK N E ≤ 1024 := by
  unfold sizeK
  by_cases h : checkR N E = 0
  · rw [if_neg (by simpa using h)]
    have hn : ¬ 256 < N.length := fun g => by
      unfold checkR at h
      rw [if_pos (.inl g)] at h
      exact absurd h (by decide)
    have := bl_lim lN
    omega
  · rw [if_pos h]; omega
theorem raw_tb {N E s : List Int} (lN : Lim N) (h : sizeK N E ≠ 0) : (tbR (powR s E N).1 (sizeK N E)).2 = 0 := by
  have hb := size_bd (E := E) lN
  have hl := pow_len (b := s) (e := E) (m := N) lN
  have hv : 0 ≤ val (powR s E N).1 ∧ bl (val (powR s E N).1) ≤ bl (val N) := by
    have b1 := val_bd lN
    unfold powR
    split
    · exact ⟨by simp [val], by simp [val, bl]⟩
    · split
      · exact ⟨by simp [val], by simp [val, bl]⟩
      · rename_i hz
        have hp : 0 < val N := by omega
        have h0 := Int.emod_nonneg (val s ^ (val E).toNat) (by omega : val N ≠ 0)
        have h1 := Int.emod_lt_of_pos (val s ^ (val E).toNat) hp
        show 0 ≤ val (limbs _) ∧ bl (val (limbs _)) ≤ _
        rw [limbs_val h0]
        refine ⟨h0, ?_⟩
        rw [bl_le h0]
        exact Int.lt_trans h1 ((bl_le b1.1).1 (Nat.le_refl _))
  unfold tbR
  rw [if_neg (by omega), if_neg (by omega), if_neg]
  have e : sizeK N E = ((bl (val N) + 7) / 8 : Nat) := by
    unfold sizeK at h ⊢
    split at h
    · exact absurd rfl h
    · rename_i hc
      rw [if_neg hc]
  rw [e]
  have : (bl (val (powR s E N).1) + 7) / 8 ≤ (bl (val N) + 7) / 8 := by omega
  omega
set_option maxHeartbeats 8000000 in
theorem raw_k {w : World} {vN vE v : Value} {N E sig : List Int} (hN : Vw .u32 w vN N) (hE : Vw .u32 w vE E) (lN : Lim N) (lE : Lim E) (nN : N.length ≤ 4194304) (nE : E.length ≤ 4194304) (hv : Vw .u8 w v sig) (hb : Byt sig) (h63 : sig.length ≤ 9223372036854775807) {K : Value → World → Prop}
    (hK : ∀ v' w', Gw .u8 w w' v' (rawR N E sig).1 → K (pr2 v' (rawR N E sig).2) w') : callK Tryz.prog 27 [.agg #[vN, vE], v] w K := by
  refine call_of Tryz.func27 Code.h27 (by simp [Code.c27]) ?_
  have hN0 := hN
  have hE0 := hE
  have hv0 := hv
  obtain ⟨A, c, rfl, hc, hr⟩ := hN0
  obtain ⟨B, d, rfl, hd, hs⟩ := hE0
  obtain ⟨D, q, rfl, hq, ht⟩ := hv0
  have hsb := size_bd (E := E) lN
  simp (disch := omega) only [wu64, wu32, wu8, fdiv_nn, EO, ↓EP, EQ, EM, ↓reduceIte, Za, Zb, Zc, Zd, Ze, Zf, Zg, Zj, Zk, Zl, Zm, Zn, Zp, Zq, reduceCtorEq, Code.c27]
  refine al_k [.slice A N.length c, .slice B E.length d] rfl fun w1 n1 => ?_
  have f1 := n1.fr nob
  simp (disch := omega) only [wu64, wu32, wu8, fdiv_nn, EO, ↓EP, EQ, EM, ↓reduceIte, Za, Zb, Zc, Zd, Ze, Zf, Zg, Zj, Zk, Zl, Zm, Zn, Zp, Zq, reduceCtorEq]
  refine n1.blk.ldAgg rfl ?_
  simp (disch := omega) only [wu64, wu32, wu8, fdiv_nn, EO, ↓EP, EQ, EM, ↓reduceIte, Za, Zb, Zc, Zd, Ze, Zf, Zg, Zj, Zk, Zl, Zm, Zn, Zp, Zq, reduceCtorEq]
  refine sizek_k (hN.nb f1) (hE.nb f1) lN lE nN nE fun w2 f2 => ?_
  have f12 := f1.nb f2
  by_cases h0 : sizeK N E = 0
  · have e : rawR N E sig = ([], 80) := if_pos h0
    rw [e] at hK
    simp (disch := omega) only [wu64, wu32, wu8, fdiv_nn, EO, ↓EP, EQ, EM, ↓reduceIte, Za, Zb, Zc, Zd, Ze, Zf, Zg, Zj, Zk, Zl, Zm, Zn, Zp, Zq, reduceCtorEq, h0]
    exact hK _ _ ⟨Sl.nil _ _, (fun b e => by cases e), f12⟩
  by_cases h1 : (sig.length : Int) = sizeK N E
  rotate_left
  · have e : rawR N E sig = ([], 112) := by unfold rawR; rw [if_neg h0, if_pos h1]
    rw [e] at hK
    simp (disch := omega) only [wu64, wu32, wu8, fdiv_nn, EO, ↓EP, EQ, EM, ↓reduceIte, Za, Zb, Zc, Zd, Ze, Zf, Zg, Zj, Zk, Zl, Zm, Zn, Zp, Zq, reduceCtorEq, h0, h1]
    exact hK _ _ ⟨Sl.nil _ _, (fun b e => by cases e), f12⟩
  simp (disch := omega) only [wu64, wu32, wu8, fdiv_nn, EO, ↓EP, EQ, EM, ↓reduceIte, Za, Zb, Zc, Zd, Ze, Zf, Zg, Zj, Zk, Zl, Zm, Zn, Zp, Zq, reduceCtorEq, h0, h1]
  refine frombytes_vw (hv.nb f12) hb _ fun v3 w3 g3 => ?_
  obtain ⟨A3, c3, rfl, hc3, hr3, _⟩ := g3.sl.read
  have f13 := f12.nb g3.fr
  have k0 : ∀ w', Fr w1 w' nob → w'.cell? ⟨w.heap.size, 0, none⟩ = some (.slice A N.length c) := fun w' f => (n1.blk.nb f).has 0 _ rfl
  have k1 : ∀ w', Fr w1 w' nob → w'.cell? ⟨w.heap.size, 1, none⟩ = some (.slice B E.length d) := fun w' f => (n1.blk.nb f).has 1 _ rfl
  have c0 := k0 w3 (f2.nb g3.fr)
  have hfl := fb_len sig hb
  simp (disch := omega) only [wu64, wu32, wu8, fdiv_nn, EO, ↓EP, EQ, EM, ↓reduceIte, Za, Zb, Zc, Zd, Ze, Zf, Zg, Zj, Zk, Zl, Zm, Zn, Zp, Zq, reduceCtorEq, c0]
  refine cmp_vw g3.vw (hN.nb f13) (fb_lim sig) lN (by omega) (by omega) _ fun w4 f4 => ?_
  have f14 := f13.nb f4
  have c0 := k0 w4 ((f2.nb g3.fr).nb f4)
  have c1 := k1 w4 ((f2.nb g3.fr).nb f4)
  by_cases h2 : val (fbR sig).1 < val N
  rotate_left
  · have e : rawR N E sig = ([], 112) := by unfold rawR; rw [if_neg h0, if_neg (by simpa using h1), if_pos h2]
    rw [e] at hK
    have hcm : 0 ≤ cmpI (val (fbR sig).1) (val N) := by
      unfold cmpI
      rw [if_neg h2]
      split <;> omega
    simp (disch := omega) only [wu64, wu32, wu8, fdiv_nn, EO, ↓EP, EQ, EM, ↓reduceIte, Za, Zb, Zc, Zd, Ze, Zf, Zg, Zj, Zk, Zl, Zm, Zn, Zp, Zq, reduceCtorEq, hcm]
    exact hK _ _ ⟨Sl.nil _ _, (fun b e => by cases e), f14⟩
  have e : rawR N E sig = ((tbR (powR (fbR sig).1 E N).1 (sizeK N E)).1, 0) := by unfold rawR; rw [if_neg h0, if_neg (by simpa using h1), if_neg (by simpa using h2)]
  rw [e] at hK
  have hcm : ¬ 0 ≤ cmpI (val (fbR sig).1) (val N) := by rw [cmp_lt h2]; decide
  simp (disch := omega) only [wu64, wu32, wu8, fdiv_nn, EO, ↓EP, EQ, EM, ↓reduceIte, Za, Zb, Zc, Zd, Ze, Zf, Zg, Zj, Zk, Zl, Zm, Zn, Zp, Zq, reduceCtorEq, hcm, c0, c1]
  refine expmod_vw (g3.vw.nb f4) (hE.nb f14) (hN.nb f14) (fb_lim sig) lE lN _ fun v5 w5 g5 => ?_
  obtain ⟨A5, c5, rfl, hc5, hr5, _⟩ := g5.sl.read
  have f15 := f14.nb g5.fr
  simp (disch := omega) only [wu64, wu32, wu8, fdiv_nn, EO, ↓EP, EQ, EM, ↓reduceIte, Za, Zb, Zc, Zd, Ze, Zf, Zg, Zj, Zk, Zl, Zm, Zn, Zp, Zq, reduceCtorEq]
  refine bytes_vw (sizeK N E) g5.vw (pow_lim _ _ _) (by omega) _ fun v6 w6 g6 => ?_
  obtain ⟨A6, c6, rfl, hc6, hr6, _⟩ := g6.sl.read
  simp (disch := omega) only [wu64, wu32, wu8, fdiv_nn, EO, ↓EP, EQ, EM, ↓reduceIte, Za, Zb, Zc, Zd, Ze, Zf, Zg, Zj, Zk, Zl, Zm, Zn, Zp, Zq, reduceCtorEq]
  refine hK _ _ ⟨g6.sl, fun b e => ?_, f15.nb g6.fr⟩
  have := g6.up b e
  have := f15.size
  omega
end Go.Proofs.YtcgplgpdcfocpaaGreatDoor.Der
end
section
set_option linter.unusedVariables false
set_option linter.unusedSimpArgs false
namespace Go.Proofs.YtcgplgpdcfocpaaGreatDoor.Der
open Go Go.RowKit Go.Proofs Go.Proofs.YtcgplgpdcfocpaaGreatDoor.Eng Go.Proofs.YtcgplgpdcfocpaaGreatDoor.Code
set_option maxRecDepth 100000
attribute [local irreducible] callK S.W opsW scrW scrT
open Go.Proofs.YtcgplgpdcfocpaaGreatDoor.Spec Go.Proofs.YtcgplgpdcfocpaaGreatDoor.Big
attribute [local irreducible] checkR powR tbR fbR
set_option maxHeartbeats 8000000 in
theorem rraw_k {w : World} {vN vE v : Value} {N E sig : List Int} (hN : Vw .u32 w vN N) (hE : Vw .u32 w vE E) (lN : Lim N) (lE : Lim E) (nN : N.length ≤ 4194304) (nE : E.length ≤ 4194304) (hv : Vw .u8 w v sig) (hb : Byt sig) (h63 : sig.length ≤ 9223372036854775807) {K : Value → World → Prop}
    (hK : ∀ v' w', Gw .u8 w w' v' (rawR N E sig).1 → K (pr2 v' (rawR N E sig).2) w') : callK Tryz.prog 29 [.agg #[vN, vE], v] w K := by
  refine call_of Tryz.func29 Code.h29 (by simp [Code.c29]) ?_
  have hN0 := hN
  have hE0 := hE
  have hv0 := hv
  obtain ⟨A, c, rfl, hc, hr⟩ := hN0
  obtain ⟨B, d, rfl, hd, hs⟩ := hE0
  obtain ⟨D, q, rfl, hq, ht⟩ := hv0
  have hsb := size_bd (E := E) lN
  simp (disch := omega) only [wu64, wu32, wu8, fdiv_nn, EO, ↓EP, EQ, EM, ↓reduceIte, Za, Zb, Zc, Zd, Ze, Zf, Zg, Zj, Zk, Zl, Zm, Zn, Zp, Zq, reduceCtorEq, Code.c29]
  refine al_k [.slice A N.length c, .slice B E.length d] rfl fun w1 n1 => ?_
  have f1 := n1.fr nob
  simp (disch := omega) only [wu64, wu32, wu8, fdiv_nn, EO, ↓EP, EQ, EM, ↓reduceIte, Za, Zb, Zc, Zd, Ze, Zf, Zg, Zj, Zk, Zl, Zm, Zn, Zp, Zq, reduceCtorEq]
  refine n1.blk.ldAgg rfl ?_
  simp (disch := omega) only [wu64, wu32, wu8, fdiv_nn, EO, ↓EP, EQ, EM, ↓reduceIte, Za, Zb, Zc, Zd, Ze, Zf, Zg, Zj, Zk, Zl, Zm, Zn, Zp, Zq, reduceCtorEq]
  refine rcheck_k (hN.nb f1) (hE.nb f1) lN lE nN nE fun w2 f2 => ?_
  have f12 := f1.nb f2
  by_cases hcz : checkR N E = 0
  rotate_left
  · have h0 : sizeK N E = 0 := if_pos hcz
    have e : rawR N E sig = ([], 80) := if_pos h0
    rw [e] at hK
    simp (disch := omega) only [wu64, wu32, wu8, fdiv_nn, EO, ↓EP, EQ, EM, ↓reduceIte, Za, Zb, Zc, Zd, Ze, Zf, Zg, Zj, Zk, Zl, Zm, Zn, Zp, Zq, reduceCtorEq, hcz]
    exact hK _ _ ⟨Sl.nil _ _, (fun b e => by cases e), f12⟩
  have h0 : sizeK N E ≠ 0 := by
    unfold sizeK
    rw [if_neg (by simpa using hcz)]
    have : 512 ≤ bl (val N) := by
      apply Classical.byContradiction
      intro h
      unfold checkR at hcz
      rw [if_pos (by omega)] at hcz
      exact absurd hcz (by decide)
    omega
  simp (disch := omega) only [wu64, wu32, wu8, fdiv_nn, EO, ↓EP, EQ, EM, ↓reduceIte, Za, Zb, Zc, Zd, Ze, Zf, Zg, Zj, Zk, Zl, Zm, Zn, Zp, Zq, reduceCtorEq, hcz]
  refine (n1.blk.nb f2).ldAgg rfl ?_
  simp (disch := omega) only [wu64, wu32, wu8, fdiv_nn, EO, ↓EP, EQ, EM, ↓reduceIte, Za, Zb, Zc, Zd, Ze, Zf, Zg, Zj, Zk, Zl, Zm, Zn, Zp, Zq, reduceCtorEq]
  refine rsizek_k (hN.nb f12) (hE.nb f12) lN lE nN nE fun w2b f2b => ?_
  have f12 := f12.nb f2b
  have f2 := f2.nb f2b
  by_cases h1 : (sig.length : Int) = sizeK N E
  rotate_left
  · have e : rawR N E sig = ([], 112) := by unfold rawR; rw [if_neg h0, if_pos h1]
    rw [e] at hK
    simp (disch := omega) only [wu64, wu32, wu8, fdiv_nn, EO, ↓EP, EQ, EM, ↓reduceIte, Za, Zb, Zc, Zd, Ze, Zf, Zg, Zj, Zk, Zl, Zm, Zn, Zp, Zq, reduceCtorEq, h1]
    exact hK _ _ ⟨Sl.nil _ _, (fun b e => by cases e), f12⟩
  simp (disch := omega) only [wu64, wu32, wu8, fdiv_nn, EO, ↓EP, EQ, EM, ↓reduceIte, Za, Zb, Zc, Zd, Ze, Zf, Zg, Zj, Zk, Zl, Zm, Zn, Zp, Zq, reduceCtorEq, h1]
  refine rfrombytes_vw (hv.nb f12) hb _ fun v3 w3 g3 => ?_
  obtain ⟨A3, c3, rfl, hc3, hr3, _⟩ := g3.sl.read
  have f13 := f12.nb g3.fr
  have k0 : ∀ w', Fr w1 w' nob → w'.cell? ⟨w.heap.size, 0, none⟩ = some (.slice A N.length c) := fun w' f => (n1.blk.nb f).has 0 _ rfl
  have k1 : ∀ w', Fr w1 w' nob → w'.cell? ⟨w.heap.size, 1, none⟩ = some (.slice B E.length d) := fun w' f => (n1.blk.nb f).has 1 _ rfl
  have c0 := k0 w3 (f2.nb g3.fr)
  have hfl := fb_len sig hb
  simp (disch := omega) only [wu64, wu32, wu8, fdiv_nn, EO, ↓EP, EQ, EM, ↓reduceIte, Za, Zb, Zc, Zd, Ze, Zf, Zg, Zj, Zk, Zl, Zm, Zn, Zp, Zq, reduceCtorEq, c0]
  refine rcmp_vw g3.vw (hN.nb f13) (fb_lim sig) lN (by omega) (by omega) _ fun cv w4 f4 q1 q2 q3 => ?_
  have f14 := f13.nb f4
  have c0 := k0 w4 ((f2.nb g3.fr).nb f4)
  have c1 := k1 w4 ((f2.nb g3.fr).nb f4)
  by_cases h2 : val (fbR sig).1 < val N
  rotate_left
  · have e : rawR N E sig = ([], 112) := by unfold rawR; rw [if_neg h0, if_neg (by simpa using h1), if_pos h2]
    rw [e] at hK
    have hcm : 0 ≤ cv := by
      by_cases h3 : val (fbR sig).1 = val N
      · have := q2 h3; omega
      · have := q3 (by omega); omega
    simp (disch := omega) only [wu64, wu32, wu8, fdiv_nn, EO, ↓EP, EQ, EM, ↓reduceIte, Za, Zb, Zc, Zd, Ze, Zf, Zg, Zj, Zk, Zl, Zm, Zn, Zp, Zq, reduceCtorEq, hcm]
    exact hK _ _ ⟨Sl.nil _ _, (fun b e => by cases e), f14⟩
  have e : rawR N E sig = ((tbR (powR (fbR sig).1 E N).1 (sizeK N E)).1, 0) := by unfold rawR; rw [if_neg h0, if_neg (by simpa using h1), if_neg (by simpa using h2)]
  rw [e] at hK
  have hcm : ¬ 0 ≤ cv := by rw [q1 h2]; decide
  simp (disch := omega) only [wu64, wu32, wu8, fdiv_nn, EO, ↓EP, EQ, EM, ↓reduceIte, Za, Zb, Zc, Zd, Ze, Zf, Zg, Zj, Zk, Zl, Zm, Zn, Zp, Zq, reduceCtorEq, hcm, c0, c1]
  refine rexpmod_vw (g3.vw.nb f4) (hE.nb f14) (hN.nb f14) (fb_lim sig) lE lN _ fun v5 w5 g5 => ?_
  obtain ⟨A5, c5, rfl, hc5, hr5, _⟩ := g5.sl.read
  have f15 := f14.nb g5.fr
  simp (disch := omega) only [wu64, wu32, wu8, fdiv_nn, EO, ↓EP, EQ, EM, ↓reduceIte, Za, Zb, Zc, Zd, Ze, Zf, Zg, Zj, Zk, Zl, Zm, Zn, Zp, Zq, reduceCtorEq]
  refine (n1.blk.nb (((f2.nb g3.fr).nb f4).nb g5.fr)).ldAgg rfl ?_
  simp (disch := omega) only [wu64, wu32, wu8, fdiv_nn, EO, ↓EP, EQ, EM, ↓reduceIte, Za, Zb, Zc, Zd, Ze, Zf, Zg, Zj, Zk, Zl, Zm, Zn, Zp, Zq, reduceCtorEq]
  refine rsizek_k (hN.nb f15) (hE.nb f15) lN lE nN nE fun w5b f5b => ?_
  have f15 := f15.nb f5b
  simp (disch := omega) only [wu64, wu32, wu8, fdiv_nn, EO, ↓EP, EQ, EM, ↓reduceIte, Za, Zb, Zc, Zd, Ze, Zf, Zg, Zj, Zk, Zl, Zm, Zn, Zp, Zq, reduceCtorEq]
  refine rbytes_vw (sizeK N E) (g5.vw.nb f5b) (pow_lim _ _ _) (by omega) _ fun v6 w6 g6 => ?_
  rw [raw_tb lN h0]
  obtain ⟨A6, c6, rfl, hc6, hr6, _⟩ := g6.sl.read
  simp (disch := omega) only [wu64, wu32, wu8, fdiv_nn, EO, ↓EP, EQ, EM, ↓reduceIte, Za, Zb, Zc, Zd, Ze, Zf, Zg, Zj, Zk, Zl, Zm, Zn, Zp, Zq, reduceCtorEq]
  refine hK _ _ ⟨g6.sl, fun b e => ?_, f15.nb g6.fr⟩
  have := g6.up b e
  have := f15.size
  omega
end Go.Proofs.YtcgplgpdcfocpaaGreatDoor.Der
end
section
set_option linter.unusedVariables false
set_option linter.unusedSimpArgs false
namespace Go.Proofs.YtcgplgpdcfocpaaGreatDoor.Der
open Go Go.RowKit Go.Proofs Go.Proofs.YtcgplgpdcfocpaaGreatDoor.Eng Go.Proofs.YtcgplgpdcfocpaaGreatDoor.Code
set_option maxRecDepth 100000
attribute [local irreducible] callK S.W opsW scrW scrT
open Go.Proofs.YtcgplgpdcfocpaaGreatDoor.Spec Go.Proofs.YtcgplgpdcfocpaaGreatDoor.Big
attribute [local irreducible] checkR sizeK rawR padR putR headR oidP
theorem bytes_back : ∀ {l : List Int}, Byt l → ((l.map fun n => UInt8.ofNat n.toNat).map fun u => (u.toNat : Int)) = l
  | [], _ => rfl
  | x :: r, h => by
    have hx := h.cons
    rw [List.map_cons, List.map_cons, bytes_back hx.2]
    congr 1
    have : (UInt8.ofNat x.toNat).toNat = x.toNat := by
      rw [UInt8.toNat_ofNat']
      exact Nat.mod_eq_of_lt (by omega)
    omega
theorem str_eq {a b : List Int} (ha : Byt a) (hb : Byt b) : ((strOfNums a).toList == (strOfNums b).toList) = decide (a = b) := by
  have e : ∀ l : List Int, (strOfNums l).toList = l.map fun n => UInt8.ofNat n.toNat := fun l => S_toList _
  rw [e, e]
  by_cases h : a = b
  · rw [h, decide_eq_true rfl, beq_self_eq_true]
  · rw [decide_eq_false h, beq_eq_false_iff_ne]
    intro g
    apply h
    rw [← bytes_back ha, g, bytes_back hb]
theorem equal_k {w : World} {va vb : Value} {l r : List Int} (ha : Vw .u8 w va l) (hb : Vw .u8 w vb r) (bl : Byt l) (br : Byt r) {K : Value → World → Prop} (hK : K (.bool (decide (l = r))) w) : callK Tryz.prog 28 [va, vb] w K := by
  refine call_of Tryz.func28 Code.h28 (by simp [Code.c28]) ?_
  obtain ⟨A, c, rfl, hc, hr⟩ := ha
  obtain ⟨B, d, rfl, hd, hs⟩ := hb
  simp (disch := omega) only [wu64, wu32, wu8, fdiv_nn, EO, ↓EP, EQ, EM, ↓reduceIte, Za, Zb, Zc, Zd, Ze, Zf, Zg, Zj, Zk, Zl, Zm, Zn, Zp, Zq, reduceCtorEq, Code.c28, ↓i_cvbsJ]
  refine cvbs_k hr rfl ?_
  simp (disch := omega) only [wu64, wu32, wu8, fdiv_nn, EO, ↓EP, EQ, EM, ↓reduceIte, Za, Zb, Zc, Zd, Ze, Zf, Zg, Zj, Zk, Zl, Zm, Zn, Zp, Zq, reduceCtorEq, ↓i_cvbsJ]
  refine cvbs_k hs rfl ?_
  simp (disch := omega) only [wu64, wu32, wu8, fdiv_nn, EO, ↓EP, EQ, EM, ↓reduceIte, Za, Zb, Zc, Zd, Ze, Zf, Zg, Zj, Zk, Zl, Zm, Zn, Zp, Zq, reduceCtorEq, b_seql, str_eq bl br]
  exact hK
def nameP (alg : Int) : List Int := (putR 0 16 true [(putR 0 6 false [oidP alg]).1, (putR 0 5 false []).1]).1
def preI (alg : Int) (h : Nat) : List Int := headR 0 16 true ((nameP alg).length + ((headR 0 4 false h).length + h)) ++ (nameP alg ++ headR 0 4 false h)
theorem name_len (alg : Int) : (nameP alg).length ≤ 81 := by
  have a := putR_len 0 16 true [(putR 0 6 false [oidP alg]).1, (putR 0 5 false []).1]
  have c := putR_len 0 6 false [oidP alg]
  have d := putR_len 0 5 false []
  have o := oid_len alg
  simp only [List.map_cons, List.map_nil, List.sum_cons, List.sum_nil] at a c d
  unfold nameP
  omega
theorem put_ok {tag : Int} {cons : Bool} {ls : List (List Int)} (h : 0 < tag ∧ tag ≤ 268435455) (hl : (ls.map List.length).sum ≤ 16777216) : (putR 0 tag cons ls).1 = headR 0 tag cons (ls.map List.length).sum ++ ls.flatten := by
  unfold putR
  rw [if_neg (by omega), if_neg (by omega)]
theorem info_pre {alg : Int} {sum : List Int} (h : sum.length ≤ 64) : infoR alg sum = preI alg sum.length ++ sum := by
  have e4 : (putR 0 4 false [sum]).1 = headR 0 4 false sum.length ++ sum := by
    rw [put_ok (by omega) (by simp; omega)]
    simp
  have hn := name_len alg
  have l4 := putR_len 0 4 false [sum]
  simp only [List.map_cons, List.map_nil, List.sum_cons, List.sum_nil] at l4
  unfold infoR
  show (putR 0 16 true [nameP alg, (putR 0 4 false [sum]).1]).1 = _
  rw [put_ok (by omega) (by simp only [List.map_cons, List.map_nil, List.sum_cons, List.sum_nil]; omega), e4]
  unfold preI
  simp [List.append_assoc]
end Go.Proofs.YtcgplgpdcfocpaaGreatDoor.Der
end
section
set_option linter.unusedVariables false
set_option linter.unusedSimpArgs false
namespace Go.Proofs.YtcgplgpdcfocpaaGreatDoor.Der
open Go Go.RowKit Go.Proofs Go.Proofs.YtcgplgpdcfocpaaGreatDoor.Eng Go.Proofs.YtcgplgpdcfocpaaGreatDoor.Code
set_option maxRecDepth 100000
attribute [local irreducible] callK S.W opsW scrW scrT
open Go.Proofs.YtcgplgpdcfocpaaGreatDoor.Spec Go.Proofs.YtcgplgpdcfocpaaGreatDoor.Big
theorem pre_byt1 : Byt (preI 1 20) := by unfold Byt; decide +kernel
theorem pre_byt2 : Byt (preI 2 32) := by unfold Byt; decide +kernel
theorem pre_byt3 : Byt (preI 3 48) := by unfold Byt; decide +kernel
theorem pre_byt4 : Byt (preI 4 64) := by unfold Byt; decide +kernel
theorem alg_or {alg : Int} (h : sizeI alg ≠ 0) : (alg = 1 ∧ sizeI alg = 20) ∨ (alg = 2 ∧ sizeI alg = 32) ∨ (alg = 3 ∧ sizeI alg = 48) ∨ (alg = 4 ∧ sizeI alg = 64) := by
  unfold sizeI at h ⊢
  grind
theorem pre_byt {alg : Int} {h : Nat} (e : sizeI alg ≠ 0) (eh : (h : Int) = sizeI alg) : Byt (preI alg h) := by
  rcases alg_or e with ⟨rfl, g⟩ | ⟨rfl, g⟩ | ⟨rfl, g⟩ | ⟨rfl, g⟩
  · obtain rfl : h = 20 := by omega
    exact pre_byt1
  · obtain rfl : h = 32 := by omega
    exact pre_byt2
  · obtain rfl : h = 48 := by omega
    exact pre_byt3
  · obtain rfl : h = 64 := by omega
    exact pre_byt4
theorem pad_byt {alg n : Int} {sum : List Int} (hs : Byt sum) : Byt (padR alg sum n).1 := by
  unfold padR
  split
  · exact Byt.nil
  · rename_i h
    have hz := sizeI_nn alg
    split
    · exact Byt.nil
    · show Byt (_ ++ _ ++ _ ++ infoR alg sum)
      rw [info_pre (by omega)]
      refine ((Byt.app (Byt.app ?_ ?_) ?_)).app ((pre_byt (by omega) (by omega)).app hs)
      · exact (Byt.nil.mk (x := 1) (by decide) (by decide)).mk (by decide) (by decide)
      · intro x hx
        have := (List.mem_replicate.1 hx).2
        omega
      · exact Byt.nil.mk (by decide) (by decide)
theorem raw_byt {N E sig : List Int} : Byt (rawR N E sig).1 := by
  unfold rawR
  split
  · exact Byt.nil
  split
  · exact Byt.nil
  split
  · exact Byt.nil
  · show Byt (tbR _ _).1
    unfold tbR
    split
    · exact Byt.nil
    split
    · exact Byt.nil
    split
    · exact Byt.nil
    · exact bvs_byt _ _
theorem rawR_len {N E sig : List Int} : (rawR N E sig).1.length ≤ 2048 := by
  unfold rawR
  split
  · simp
  split
  · simp
  split
  · simp
  · show ((tbR _ _).1).length ≤ _
    unfold tbR
    split
    · simp
    split
    · simp
    split
    · simp
    · show (bvs _ _).length ≤ _
      rw [bvs_len]
      omega
theorem padL (alg : Int) (sum : List Int) (n : Int) : (padR alg sum n).1.length ≤ 4096 := by
  unfold padR
  split
  · simp
  · rename_i h
    have hz := sizeI_nn alg
    have hil := info_len (alg := alg) (sum := sum) (by omega)
    split
    · simp
    · simp only [List.length_append, List.length_replicate, List.length_cons, List.length_nil]; omega
end Go.Proofs.YtcgplgpdcfocpaaGreatDoor.Der
end
section
set_option linter.unusedVariables false
set_option linter.unusedSimpArgs false
namespace Go.Proofs.YtcgplgpdcfocpaaGreatDoor.Der
open Go Go.RowKit Go.Proofs Go.Proofs.YtcgplgpdcfocpaaGreatDoor.Eng Go.Proofs.YtcgplgpdcfocpaaGreatDoor.Code
set_option maxRecDepth 100000
attribute [local irreducible] callK S.W opsW scrW scrT
open Go.Proofs.YtcgplgpdcfocpaaGreatDoor.Spec Go.Proofs.YtcgplgpdcfocpaaGreatDoor.Big
attribute [local irreducible] checkR sizeK rawR padR
def verR (N E : List Int) (alg : Int) (sum sig : List Int) : Int :=
  if sizeI alg = 0 ∨ (sum.length : Int) ≠ sizeI alg then 1
  else if (rawR N E sig).2 ≠ 0 then (rawR N E sig).2
  else if (padR alg sum ((rawR N E sig).1.length : Nat)).2 ≠ 0 ∨ (padR alg sum ((rawR N E sig).1.length : Nat)).1 ≠ (rawR N E sig).1 then 112 else 0
set_option maxHeartbeats 8000000 in
theorem verify_k {w : World} {vN vE v v2 : Value} {N E sig sum : List Int} {alg : Int} (hN : Vw .u32 w vN N) (hE : Vw .u32 w vE E) (lN : Lim N) (lE : Lim E) (nN : N.length ≤ 4194304) (nE : E.length ≤ 4194304) (hv : Vw .u8 w v sum) (hb : Byt sum) (h63 : sum.length ≤ 9223372036854775807) (hv2 : Vw .u8 w v2 sig) (hb2 : Byt sig) (h64 : sig.length ≤ 9223372036854775807) {K : Value → World → Prop}
    (hK : ∀ w', Fr w w' nob → K (.int .i64 (verR N E alg sum sig)) w') : callK Tryz.prog 11 [.agg #[vN, vE], .int .i64 alg, v, v2] w K := by
  refine call_of Tryz.func11 Code.h11 (by simp [Code.c11]) ?_
  have hN0 := hN
  have hE0 := hE
  have hv0 := hv
  have hv20 := hv2
  obtain ⟨A, c, rfl, hc, hr⟩ := hN0
  obtain ⟨B, d, rfl, hd, hs⟩ := hE0
  obtain ⟨D, q, rfl, hq, ht⟩ := hv0
  obtain ⟨D2, q2, rfl, hq2, ht2⟩ := hv20
  have hz := sizeI_nn alg
  have hrl := rawR_len (N := N) (E := E) (sig := sig)
  simp (disch := omega) only [wu64, wu32, wu8, fdiv_nn, EO, ↓EP, EQ, EM, ↓reduceIte, Za, Zb, Zc, Zd, Ze, Zf, Zg, Zj, Zk, Zl, Zm, Zn, Zp, Zq, reduceCtorEq, Code.c11]
  refine al_k [.slice A N.length c, .slice B E.length d] rfl fun w1 n1 => ?_
  have f1 := n1.fr nob
  simp (disch := omega) only [wu64, wu32, wu8, fdiv_nn, EO, ↓EP, EQ, EM, ↓reduceIte, Za, Zb, Zc, Zd, Ze, Zf, Zg, Zj, Zk, Zl, Zm, Zn, Zp, Zq, reduceCtorEq]
  refine known_k h63 ?_
  by_cases c0 : 0 < sizeI alg ∧ (sum.length : Int) = sizeI alg
  rotate_left
  · have : (decide (0 < sizeI alg) && decide ((sum.length : Int) = sizeI alg)) = false := by
      by_cases h : 0 < sizeI alg
      · have : ¬ (sum.length : Int) = sizeI alg := fun e => c0 ⟨h, e⟩
        simp [this]
      · simp [h]
    rw [this]
    have e : verR N E alg sum sig = 1 := if_pos (by omega)
    rw [e] at hK
    simp (disch := omega) only [wu64, wu32, wu8, fdiv_nn, EO, ↓EP, EQ, EM, ↓reduceIte, Za, Zb, Zc, Zd, Ze, Zf, Zg, Zj, Zk, Zl, Zm, Zn, Zp, Zq, reduceCtorEq, Bool.not_false]
    exact hK _ f1
  obtain ⟨c1, c2⟩ := c0
  rw [decide_eq_true c1, decide_eq_true c2, Bool.true_and]
  simp (disch := omega) only [wu64, wu32, wu8, fdiv_nn, EO, ↓EP, EQ, EM, ↓reduceIte, Za, Zb, Zc, Zd, Ze, Zf, Zg, Zj, Zk, Zl, Zm, Zn, Zp, Zq, reduceCtorEq, Bool.not_true]
  refine n1.blk.ldAgg rfl ?_
  simp (disch := omega) only [wu64, wu32, wu8, fdiv_nn, EO, ↓EP, EQ, EM, ↓reduceIte, Za, Zb, Zc, Zd, Ze, Zf, Zg, Zj, Zk, Zl, Zm, Zn, Zp, Zq, reduceCtorEq]
  refine raw_k (hN.nb f1) (hE.nb f1) lN lE nN nE (hv2.nb f1) hb2 h64 fun v3 w3 g3 => ?_
  obtain ⟨A3, c3, rfl, hc3, hr3, _⟩ := g3.sl.read
  have f13 := f1.nb g3.fr
  by_cases h0 : (rawR N E sig).2 = 0
  rotate_left
  · have e : verR N E alg sum sig = (rawR N E sig).2 := by unfold verR; rw [if_neg (by omega), if_pos h0]
    rw [e] at hK
    simp (disch := omega) only [wu64, wu32, wu8, fdiv_nn, EO, ↓EP, EQ, EM, ↓reduceIte, Za, Zb, Zc, Zd, Ze, Zf, Zg, Zj, Zk, Zl, Zm, Zn, Zp, Zq, reduceCtorEq, pr2, h0]
    exact hK _ f13
  simp (disch := omega) only [wu64, wu32, wu8, fdiv_nn, EO, ↓EP, EQ, EM, ↓reduceIte, Za, Zb, Zc, Zd, Ze, Zf, Zg, Zj, Zk, Zl, Zm, Zn, Zp, Zq, reduceCtorEq, pr2, h0]
  refine pad_k (n := ((rawR N E sig).1.length : Nat)) (by omega) (hv.nb f13) h63 fun v4 w4 g4 => ?_
  obtain ⟨A4, c4, rfl, hc4, hr4, _⟩ := g4.sl.read
  have f14 := f13.nb g4.fr
  by_cases h1 : (padR alg sum ((rawR N E sig).1.length : Nat)).2 = 0
  rotate_left
  · have e : verR N E alg sum sig = 112 := by unfold verR; rw [if_neg (by omega), if_neg (by omega), if_pos (.inl h1)]
    rw [e] at hK
    simp (disch := omega) only [wu64, wu32, wu8, fdiv_nn, EO, ↓EP, EQ, EM, ↓reduceIte, Za, Zb, Zc, Zd, Ze, Zf, Zg, Zj, Zk, Zl, Zm, Zn, Zp, Zq, reduceCtorEq, pr2, h1]
    exact hK _ f14
  simp (disch := omega) only [wu64, wu32, wu8, fdiv_nn, EO, ↓EP, EQ, EM, ↓reduceIte, Za, Zb, Zc, Zd, Ze, Zf, Zg, Zj, Zk, Zl, Zm, Zn, Zp, Zq, reduceCtorEq, pr2, h1]
  refine equal_k g4.vw (g3.vw.nb g4.fr) (pad_byt hb) raw_byt ?_
  by_cases h2 : (padR alg sum ((rawR N E sig).1.length : Nat)).1 = (rawR N E sig).1
  · have e : verR N E alg sum sig = 0 := by unfold verR; rw [if_neg (by omega), if_neg (by omega), if_neg (fun g => g.elim (fun x => x h1) (fun x => x h2))]
    rw [e] at hK
    rw [decide_eq_true h2]
    simp (disch := omega) only [wu64, wu32, wu8, fdiv_nn, EO, ↓EP, EQ, EM, ↓reduceIte, Za, Zb, Zc, Zd, Ze, Zf, Zg, Zj, Zk, Zl, Zm, Zn, Zp, Zq, reduceCtorEq, Bool.not_true]
    exact hK _ f14
  · have e : verR N E alg sum sig = 112 := by unfold verR; rw [if_neg (by omega), if_neg (by omega), if_pos (.inr h2)]
    rw [e] at hK
    rw [decide_eq_false h2]
    simp (disch := omega) only [wu64, wu32, wu8, fdiv_nn, EO, ↓EP, EQ, EM, ↓reduceIte, Za, Zb, Zc, Zd, Ze, Zf, Zg, Zj, Zk, Zl, Zm, Zn, Zp, Zq, reduceCtorEq, Bool.not_false]
    exact hK _ f14
set_option maxHeartbeats 8000000 in
theorem rverify_k {w : World} {vN vE v v2 : Value} {N E sig sum : List Int} {alg : Int} (hN : Vw .u32 w vN N) (hE : Vw .u32 w vE E) (lN : Lim N) (lE : Lim E) (nN : N.length ≤ 4194304) (nE : E.length ≤ 4194304) (hv : Vw .u8 w v sum) (h63 : sum.length ≤ 9223372036854775807) (hv2 : Vw .u8 w v2 sig) (hb2 : Byt sig) (h64 : sig.length ≤ 9223372036854775807) {K : Value → World → Prop}
    (hK : ∀ w', Fr w w' nob → K (.int .i64 (verR N E alg sum sig)) w') : callK Tryz.prog 12 [.agg #[vN, vE], .int .i64 alg, v, v2] w K := by
  refine call_of Tryz.func12 Code.h12 (by simp [Code.c12]) ?_
  have hN0 := hN
  have hE0 := hE
  have hv0 := hv
  have hv20 := hv2
  obtain ⟨A, c, rfl, hc, hr⟩ := hN0
  obtain ⟨B, d, rfl, hd, hs⟩ := hE0
  obtain ⟨D, q, rfl, hq, ht⟩ := hv0
  obtain ⟨D2, q2, rfl, hq2, ht2⟩ := hv20
  have hz := sizeI_nn alg
  have hrl := rawR_len (N := N) (E := E) (sig := sig)
  simp (disch := omega) only [wu64, wu32, wu8, fdiv_nn, EO, ↓EP, EQ, EM, ↓reduceIte, Za, Zb, Zc, Zd, Ze, Zf, Zg, Zj, Zk, Zl, Zm, Zn, Zp, Zq, reduceCtorEq, Code.c12]
  refine al_k [.slice A N.length c, .slice B E.length d] rfl fun w1 n1 => ?_
  have f1 := n1.fr nob
  simp (disch := omega) only [wu64, wu32, wu8, fdiv_nn, EO, ↓EP, EQ, EM, ↓reduceIte, Za, Zb, Zc, Zd, Ze, Zf, Zg, Zj, Zk, Zl, Zm, Zn, Zp, Zq, reduceCtorEq]
  refine rsize_k alg _ _ ?_
  by_cases c0 : sizeI alg = 0
  · have e : verR N E alg sum sig = 1 := if_pos (by omega)
    rw [e] at hK
    simp (disch := omega) only [wu64, wu32, wu8, fdiv_nn, EO, ↓EP, EQ, EM, ↓reduceIte, Za, Zb, Zc, Zd, Ze, Zf, Zg, Zj, Zk, Zl, Zm, Zn, Zp, Zq, reduceCtorEq, c0]
    exact hK _ f1
  simp (disch := omega) only [wu64, wu32, wu8, fdiv_nn, EO, ↓EP, EQ, EM, ↓reduceIte, Za, Zb, Zc, Zd, Ze, Zf, Zg, Zj, Zk, Zl, Zm, Zn, Zp, Zq, reduceCtorEq, c0]
  refine rsize_k alg _ _ ?_
  by_cases c1 : (sum.length : Int) = sizeI alg
  rotate_left
  · have e : verR N E alg sum sig = 1 := if_pos (by omega)
    rw [e] at hK
    simp (disch := omega) only [wu64, wu32, wu8, fdiv_nn, EO, ↓EP, EQ, EM, ↓reduceIte, Za, Zb, Zc, Zd, Ze, Zf, Zg, Zj, Zk, Zl, Zm, Zn, Zp, Zq, reduceCtorEq, c0, c1]
    exact hK _ f1
  simp (disch := omega) only [wu64, wu32, wu8, fdiv_nn, EO, ↓EP, EQ, EM, ↓reduceIte, Za, Zb, Zc, Zd, Ze, Zf, Zg, Zj, Zk, Zl, Zm, Zn, Zp, Zq, reduceCtorEq, c0, c1]
  refine n1.blk.ldAgg rfl ?_
  simp (disch := omega) only [wu64, wu32, wu8, fdiv_nn, EO, ↓EP, EQ, EM, ↓reduceIte, Za, Zb, Zc, Zd, Ze, Zf, Zg, Zj, Zk, Zl, Zm, Zn, Zp, Zq, reduceCtorEq]
  refine rraw_k (hN.nb f1) (hE.nb f1) lN lE nN nE (hv2.nb f1) hb2 h64 fun v3 w3 g3 => ?_
  obtain ⟨A3, c3, rfl, hc3, hr3, _⟩ := g3.sl.read
  have f13 := f1.nb g3.fr
  by_cases h0 : (rawR N E sig).2 = 0
  rotate_left
  · have e : verR N E alg sum sig = (rawR N E sig).2 := by unfold verR; rw [if_neg (by omega), if_pos h0]
    rw [e] at hK
    simp (disch := omega) only [wu64, wu32, wu8, fdiv_nn, EO, ↓EP, EQ, EM, ↓reduceIte, Za, Zb, Zc, Zd, Ze, Zf, Zg, Zj, Zk, Zl, Zm, Zn, Zp, Zq, reduceCtorEq, pr2, h0]
    exact hK _ f13
  simp (disch := omega) only [wu64, wu32, wu8, fdiv_nn, EO, ↓EP, EQ, EM, ↓reduceIte, Za, Zb, Zc, Zd, Ze, Zf, Zg, Zj, Zk, Zl, Zm, Zn, Zp, Zq, reduceCtorEq, pr2, h0]
  refine rpad_k (n := ((rawR N E sig).1.length : Nat)) (by omega) (hv.nb f13) h63 fun v4 w4 g4 => ?_
  obtain ⟨A4, c4, rfl, hc4, hr4, _⟩ := g4.sl.read
  have f14 := f13.nb g4.fr
  by_cases h1 : (padR alg sum ((rawR N E sig).1.length : Nat)).2 = 0
  rotate_left
  · have e : verR N E alg sum sig = 112 := by unfold verR; rw [if_neg (by omega), if_neg (by omega), if_pos (.inl h1)]
    rw [e] at hK
    simp (disch := omega) only [wu64, wu32, wu8, fdiv_nn, EO, ↓EP, EQ, EM, ↓reduceIte, Za, Zb, Zc, Zd, Ze, Zf, Zg, Zj, Zk, Zl, Zm, Zn, Zp, Zq, reduceCtorEq, pr2, h1]
    exact hK _ f14
  simp (disch := omega) only [wu64, wu32, wu8, fdiv_nn, EO, ↓EP, EQ, EM, ↓reduceIte, Za, Zb, Zc, Zd, Ze, Zf, Zg, Zj, Zk, Zl, Zm, Zn, Zp, Zq, reduceCtorEq, pr2, h1]
  refine sameb_vw g4.vw (g3.vw.nb g4.fr) (by have := padL alg sum ((rawR N E sig).1.length : Nat); omega) _ fun w5 f5 => ?_
  have f15 := f14.nb f5
  by_cases h2 : (padR alg sum ((rawR N E sig).1.length : Nat)).1 = (rawR N E sig).1
  · have e : verR N E alg sum sig = 0 := by unfold verR; rw [if_neg (by omega), if_neg (by omega), if_neg (fun g => g.elim (fun x => x h1) (fun x => x h2))]
    rw [e] at hK
    rw [decide_eq_true h2]
    simp (disch := omega) only [wu64, wu32, wu8, fdiv_nn, EO, ↓EP, EQ, EM, ↓reduceIte, Za, Zb, Zc, Zd, Ze, Zf, Zg, Zj, Zk, Zl, Zm, Zn, Zp, Zq, reduceCtorEq, Bool.not_true]
    exact hK _ f15
  · have e : verR N E alg sum sig = 112 := by unfold verR; rw [if_neg (by omega), if_neg (by omega), if_pos (.inr h2)]
    rw [e] at hK
    rw [decide_eq_false h2]
    simp (disch := omega) only [wu64, wu32, wu8, fdiv_nn, EO, ↓EP, EQ, EM, ↓reduceIte, Za, Zb, Zc, Zd, Ze, Zf, Zg, Zj, Zk, Zl, Zm, Zn, Zp, Zq, reduceCtorEq, Bool.not_false]
    exact hK _ f15
end Go.Proofs.YtcgplgpdcfocpaaGreatDoor.Der
end
section
set_option linter.unusedVariables false
set_option linter.unusedSimpArgs false
namespace Go.Proofs.YtcgplgpdcfocpaaGreatDoor.Der
open Go Go.RowKit Go.Proofs Go.Proofs.YtcgplgpdcfocpaaGreatDoor.Eng Go.Proofs.YtcgplgpdcfocpaaGreatDoor.Code
set_option maxRecDepth 100000
attribute [local irreducible] callK S.W opsW scrW scrT
open Go.Proofs.YtcgplgpdcfocpaaGreatDoor.Spec Go.Proofs.YtcgplgpdcfocpaaGreatDoor.Big
attribute [local irreducible] checkR sizeK rawR padR verR
theorem scrX_pg (P : Program) (l : List O) (d : Nat) (g) (i : I) (r cs) (K) (ρ : Env) (w : World) : scrX P l 0 (some ⟨some d, some g, i⟩) r cs K ρ w = gB (ρ g.1) g.2 (rW i ρ w fun v => scrT P l r cs K (upd ρ d v) w) (scrT P l r cs K (upd ρ d undef) w) .mk .mk := (rfl)
theorem scrX_qg (P : Program) (l : List O) (d : Nat) (g) (i : I) (r cs) (K) (ρ : Env) (w : World) : scrX P l 1 (some ⟨some d, some g, i⟩) r cs K ρ w = gB (ρ g.1) g.2 (qW P i ρ w fun v => scrT P l r cs K (upd ρ d v) w) (scrT P l r cs K (upd ρ d undef) w) .mk .mk := (rfl)
theorem scrX_lg (P : Program) (l : List O) (d : Nat) (g) (i : I) (r cs) (K) (ρ : Env) (w : World) : scrX P l 2 (some ⟨some d, some g, i⟩) r cs K ρ w = ∀ m, gB (ρ g.1) g.2 (iW P i ρ (w.drewN m) fun v w' => allC cs w' ∧ scrT P l r cs K (upd ρ d v) w') (allC cs (w.drewN m) ∧ scrT P l r cs K (upd ρ d undef) (w.drewN m)) .mk .mk := (rfl)
theorem scrX_fg (P : Program) (l : List O) (d : Nat) (g) (k : TyK) (a : Operand) (r cs) (K) (ρ : Env) (w : World) : scrX P l 3 (some ⟨some d, some g, .ld k a⟩) r cs K ρ w = gB (ρ g.1) g.2 (ptrK (ev ρ a) fun p => ldK w k p fun v => scrT P l r ((k, p, v) :: cs) K (upd ρ d v) w) (scrT P l r cs K (upd ρ d undef) w) .mk .mk := (rfl)
theorem r_pick5 (c a b : Operand) (ρ : Env) (w : World) (K : Value → Prop) : rW (.pick c a b) ρ w K = boolK (ev ρ c) fun t => letK (if t then ev ρ a else ev ρ b) K := rfl
theorem lnt_rd5 {w0 w : World} {v : Value} {l : List Int} {x y : Int} (h : Lnt .u8 w0 w v l x y) : ∃ A c, v = .slice A l.length c ∧ l.length ≤ c ∧ Rd w A (nums .u8 l) := by
  obtain ⟨b, c, rfl, hc, _, hr⟩ := h.read
  exact ⟨_, c, rfl, by omega, hr⟩
set_option maxHeartbeats 8000000 in
theorem verifies_k {w : World} (hT : Tb w) {vN vE v v2 : Value} {alg : Int} {N E sum sig : List Int} (hN : Vw .u32 w vN N) (hE : Vw .u32 w vE E) (lN : Lim N) (lE : Lim E) (nN : N.length ≤ 9223372036854775807) (nE : E.length ≤ 9223372036854775807) (hv : Vw .u8 w v sum) (hb : Byt sum) (h63 : sum.length ≤ 9223372036854775807) (hv2 : Vw .u8 w v2 sig) (hb2 : Byt sig) (h64 : sig.length ≤ 9223372036854775807) {K : Value → World → Prop} (hK : ∀ w', Fr w w' nob → K (.bool true) w') : callK Tryz.prog 3 [.agg #[vN, vE], .int .i64 alg, v, v2] w K := by
  refine call_of Tryz.func3 Code.h3 (by simp [Code.c3]) ?_
  have hN0 := hN
  have hE0 := hE
  have hv0 := hv
  have hv20 := hv2
  obtain ⟨A, c, rfl, hc, hr⟩ := hN0
  obtain ⟨B, d, rfl, hd, hs⟩ := hE0
  obtain ⟨D, q, rfl, hq, ht⟩ := hv0
  obtain ⟨D2, q2, rfl, hq2, ht2⟩ := hv20
  simp (disch := omega) only [wu64, wu32, wu8, fdiv_nn, EO, ↓EP, EQ, EM, ↓reduceIte, Za, Zb, Zc, Zd, Ze, Zf, Zg, Zj, Zk, Zl, Zm, Zn, Zp, Zq, reduceCtorEq, Code.c3]
  refine al_k [.slice A N.length c, .slice B E.length d] rfl fun w1 n1 => ?_
  have f1 := n1.fr nob
  have c0 : w1.cell? ⟨w.heap.size, 0, none⟩ = some (.slice A N.length c) := n1.blk.has 0 _ rfl
  have c1 : w1.cell? ⟨w.heap.size, 1, none⟩ = some (.slice B E.length d) := n1.blk.has 1 _ rfl
  by_cases h1 : (64 : Int) < (N.length : Int)
  · simp (disch := omega) only [wu64, wu32, wu8, fdiv_nn, EO, ↓EP, EQ, EM, ↓reduceIte, Za, Zb, Zc, Zd, Ze, Zf, Zg, Zj, Zk, Zl, Zm, Zn, Zp, Zq, reduceCtorEq, c0, c1, h1]
    refine live8_k (hT.fr f1 (fun x => x) (fun x => x)) fun w2 f2 => ?_
    simp (disch := omega) only [wu64, wu32, wu8, fdiv_nn, EO, ↓EP, EQ, EM, ↓reduceIte, Za, Zb, Zc, Zd, Ze, Zf, Zg, Zj, Zk, Zl, Zm, Zn, Zp, Zq, reduceCtorEq]
    exact hK _ (f1.nb f2)
  by_cases h2 : (600 : Int) < (E.length : Int)
  · simp (disch := omega) only [wu64, wu32, wu8, fdiv_nn, EO, ↓EP, EQ, EM, ↓reduceIte, Za, Zb, Zc, Zd, Ze, Zf, Zg, Zj, Zk, Zl, Zm, Zn, Zp, Zq, reduceCtorEq, c0, c1, h1, h2]
    refine live8_k (hT.fr f1 (fun x => x) (fun x => x)) fun w2 f2 => ?_
    simp (disch := omega) only [wu64, wu32, wu8, fdiv_nn, EO, ↓EP, EQ, EM, ↓reduceIte, Za, Zb, Zc, Zd, Ze, Zf, Zg, Zj, Zk, Zl, Zm, Zn, Zp, Zq, reduceCtorEq]
    exact hK _ (f1.nb f2)
  by_cases h3 : (8192 : Int) < (sum.length : Int)
  · simp (disch := omega) only [wu64, wu32, wu8, fdiv_nn, EO, ↓EP, EQ, EM, ↓reduceIte, Za, Zb, Zc, Zd, Ze, Zf, Zg, Zj, Zk, Zl, Zm, Zn, Zp, Zq, reduceCtorEq, c0, c1, h1, h2, h3]
    refine live8_k (hT.fr f1 (fun x => x) (fun x => x)) fun w2 f2 => ?_
    simp (disch := omega) only [wu64, wu32, wu8, fdiv_nn, EO, ↓EP, EQ, EM, ↓reduceIte, Za, Zb, Zc, Zd, Ze, Zf, Zg, Zj, Zk, Zl, Zm, Zn, Zp, Zq, reduceCtorEq]
    exact hK _ (f1.nb f2)
  by_cases h4 : (8192 : Int) < (sig.length : Int)
  · simp (disch := omega) only [wu64, wu32, wu8, fdiv_nn, EO, ↓EP, EQ, EM, ↓reduceIte, Za, Zb, Zc, Zd, Ze, Zf, Zg, Zj, Zk, Zl, Zm, Zn, Zp, Zq, reduceCtorEq, c0, c1, h1, h2, h3, h4]
    refine live8_k (hT.fr f1 (fun x => x) (fun x => x)) fun w2 f2 => ?_
    simp (disch := omega) only [wu64, wu32, wu8, fdiv_nn, EO, ↓EP, EQ, EM, ↓reduceIte, Za, Zb, Zc, Zd, Ze, Zf, Zg, Zj, Zk, Zl, Zm, Zn, Zp, Zq, reduceCtorEq]
    exact hK _ (f1.nb f2)
  simp (disch := omega) only [wu64, wu32, wu8, fdiv_nn, EO, ↓EP, EQ, EM, ↓reduceIte, Za, Zb, Zc, Zd, Ze, Zf, Zg, Zj, Zk, Zl, Zm, Zn, Zp, Zq, reduceCtorEq, c0, c1, h1, h2, h3, h4]
  refine lentb_vw (hv.nb f1) (by omega) _ fun v2 w2 L2 f2 => ?_
  obtain ⟨A2, c2, rfl, hc2, hr2⟩ := lnt_rd5 L2
  have f12 := f1.nb f2
  simp (disch := omega) only [wu64, wu32, wu8, fdiv_nn, EO, ↓EP, EQ, EM, ↓reduceIte, Za, Zb, Zc, Zd, Ze, Zf, Zg, Zj, Zk, Zl, Zm, Zn, Zp, Zq, reduceCtorEq]
  refine lentb_vw (hv2.nb f12) (by omega) _ fun v3 w3 L3 f3 => ?_
  obtain ⟨A3, c3, rfl, hc3, hr3⟩ := lnt_rd5 L3
  have f13 := f12.nb f3
  have g0 := f2.nb f3
  have q2 : Vw .u8 w3 (.slice A2 sum.length c2) sum := ⟨A2, c2, rfl, hc2, hr2.nb f3⟩
  have q3 : Vw .u8 w3 (.slice A3 sig.length c3) sig := ⟨A3, c3, rfl, hc3, hr3⟩
  simp (disch := omega) only [wu64, wu32, wu8, fdiv_nn, EO, ↓EP, EQ, EM, ↓reduceIte, Za, Zb, Zc, Zd, Ze, Zf, Zg, Zj, Zk, Zl, Zm, Zn, Zp, Zq, reduceCtorEq]
  refine (n1.blk.nb (g0.nb (fr_drewN' w3 _))).ldAgg rfl ?_
  simp (disch := omega) only [wu64, wu32, wu8, fdiv_nn, EO, ↓EP, EQ, EM, ↓reduceIte, Za, Zb, Zc, Zd, Ze, Zf, Zg, Zj, Zk, Zl, Zm, Zn, Zp, Zq, reduceCtorEq]
  refine (n1.blk.nb (g0.nb (fr_drewN' w3 _))).ldAgg rfl ?_
  simp (disch := omega) only [wu64, wu32, wu8, fdiv_nn, EO, ↓EP, EQ, EM, ↓reduceIte, Za, Zb, Zc, Zd, Ze, Zf, Zg, Zj, Zk, Zl, Zm, Zn, Zp, Zq, reduceCtorEq]
  intro m1
  have g1 := fr_drewN' w3 (1 + m1)
  have alls : ∀ w', Fr w1 w' nob → allC [(TyK.agg 2, ⟨w.heap.size, 0, none⟩, Value.agg #[Value.slice A N.length c, Value.slice B E.length d])] w' := fun w' f => ⟨⟨_, rfl, (n1.blk.nb f).cellsAt0, rfl⟩, trivial⟩
  refine verify_k ((hN.nb f13).nb g1) ((hE.nb f13).nb g1) lN lE (by omega) (by omega) (q2.nb g1) hb h63 (q3.nb g1) hb2 h64 fun w4 f4 => ?_
  have f34 := g1.nb f4
  refine ⟨alls w4 (g0.nb f34), ?_⟩
  simp (disch := omega) only [wu64, wu32, wu8, fdiv_nn, EO, ↓EP, EQ, EM, ↓reduceIte, Za, Zb, Zc, Zd, Ze, Zf, Zg, Zj, Zk, Zl, Zm, Zn, Zp, Zq, reduceCtorEq]
  intro m2
  have g2 := f34.nb (fr_drewN' w4 m2)
  refine num8_k ⟨alls _ (g0.nb g2), ?_⟩
  simp (disch := omega) only [wu64, wu32, wu8, fdiv_nn, EO, ↓EP, EQ, EM, ↓reduceIte, Za, Zb, Zc, Zd, Ze, Zf, Zg, Zj, Zk, Zl, Zm, Zn, Zp, Zq, reduceCtorEq]
  intro m3
  have g3 := f34.nb (fr_drewN' w4 (m2 + m3))
  have f14 := f13.nb g3
  refine rverify_k (hN.nb f14) (hE.nb f14) lN lE (by omega) (by omega) (hv.nb f14) h63 (hv2.nb f14) hb2 h64 fun w5 f5 => ?_
  have f35 := g3.nb f5
  refine ⟨alls w5 (g0.nb f35), ?_⟩
  have hd : decide (verR N E alg sum sig = verR N E alg sum sig) = true := decide_eq_true rfl
  simp (disch := omega) only [wu64, wu32, wu8, fdiv_nn, EO, ↓EP, EQ, EM, ↓reduceIte, Za, Zb, Zc, Zd, Ze, Zf, Zg, Zj, Zk, Zl, Zm, Zn, Zp, Zq, reduceCtorEq, hd, scrX_pg, scrX_qg, scrX_lg, scrX_fg, r_pick5]
  intro m4
  have g4 := f35.nb (fr_drewN' w5 m4)
  refine keptb_vw (L2.fr (f3.nb g4) fun _ _ x => x) (hv.nb (f13.nb g4)) (by omega) _ fun w6 f6 => ?_
  have f36 := g4.nb f6
  refine ⟨alls w6 (g0.nb f36), ?_⟩
  simp (disch := omega) only [wu64, wu32, wu8, fdiv_nn, EO, ↓EP, EQ, EM, ↓reduceIte, Za, Zb, Zc, Zd, Ze, Zf, Zg, Zj, Zk, Zl, Zm, Zn, Zp, Zq, reduceCtorEq, hd, scrX_pg, scrX_qg, scrX_lg, scrX_fg, r_pick5]
  intro m5
  have g5 := f36.nb (fr_drewN' w6 m5)
  refine keptb_vw (L3.fr g5 fun _ _ x => x) (hv2.nb (f13.nb g5)) (by omega) _ fun w7 f7 => ?_
  have f37 := g5.nb f7
  refine ⟨alls w7 (g0.nb f37), ?_⟩
  simp (disch := omega) only [wu64, wu32, wu8, fdiv_nn, EO, ↓EP, EQ, EM, ↓reduceIte, Za, Zb, Zc, Zd, Ze, Zf, Zg, Zj, Zk, Zl, Zm, Zn, Zp, Zq, reduceCtorEq, hd, scrX_pg, scrX_qg, scrX_lg, scrX_fg, r_pick5]
  intro m6
  have g6 := f37.nb (fr_drewN' w7 m6)
  refine live8_k (hT.fr (f13.nb g6) (fun x => x) (fun x => x)) fun w8 f8 => ?_
  have f38 := g6.nb f8
  refine ⟨alls w8 (g0.nb f38), ?_⟩
  simp (disch := omega) only [wu64, wu32, wu8, fdiv_nn, EO, ↓EP, EQ, EM, ↓reduceIte, Za, Zb, Zc, Zd, Ze, Zf, Zg, Zj, Zk, Zl, Zm, Zn, Zp, Zq, reduceCtorEq, hd, scrX_pg, scrX_qg, scrX_lg, scrX_fg, r_pick5]
  intro m7
  exact hK _ (f13.nb (f38.nb (fr_drewN' w8 m7)))
end Go.Proofs.YtcgplgpdcfocpaaGreatDoor.Der
end
section
namespace Go.Proofs.YtcgplgpdcfocpaaGreatDoor
open Go
set_option maxRecDepth 100000
theorem stand_of {P : Program} {fn : Func} (h : (fn.params.toList.all fun t => !P.wantsStandIn t) = true) : ∀ (j : Nat) t, fn.params[j]? = some t → P.wantsStandIn t = false := by
  intro j t hj
  have := List.all_eq_true.1 h t (by rw [Array.mem_toList_iff]; exact Array.mem_of_getElem? hj)
  simpa using this
open Go Go.ChangeShapes Go.WideShapes Go.ChangeAt Go.WideMaps Go.WideElems Go.RowKit Go.Proofs.YtcgplgpdcfocpaaGreatDoor.Eng Go.Proofs.YtcgplgpdcfocpaaGreatDoor.Der
theorem rsaVerifies_walk {H : Type} {enc : TypeId × Value → H} (W : World) (base : Nat) (args : Array Value) (ds : List (DataW H)) (p : List MemPlace) (hA0 : DataW.TrodAll enc Tryz.prog W 0 (fun _ => true) true Tryz.f3.params.toList args.toList ds p)
    (hval : ∀ (j : Nat) t v, Tryz.f3.params[j]? = some t → args[j]? = some v → Value.okWide Tryz.prog W .any base t v) (hz : (DataW.weightsEach Tryz.prog Tryz.f3.params.toList ds).all (· ≤ reachBytes) = true) (hL : laidMetH Tryz.prog laid2 W) :
    callK Tryz.prog 3 args.toList W fun v w' => v = .bool true ∧ Fr W w' nob := by
  have hA : DataW.TrodAll enc Tryz.prog W 0 (fun _ => true) true Tryz.f3.params.toList args.toList ds p := hA0
  rw [Tryz.params3] at hA hval
  obtain ⟨v0, v1, v2, v3, d0, d1, d2, d3, p0, p1, p2, p3, rfl, rfl, rfl, h0, h1, h2, h3⟩ := trodAll_four hA
  obtain ⟨vN, vE, n, y0, y1, rfl, g0, g1⟩ := open_rec2q Tryz.underlying24 (by kernel_rfl) rfl rfl (by kernel_rfl) (by kernel_rfl) (hval 0 24 v0 rfl rfl) h0
  obtain ⟨A, c, N, rfl, hc, hr, wN, mN⟩ := Row.cell_slv Tryz.underlying22 Tryz.underlying50 cells_u32 g0
  obtain ⟨B, d, E, rfl, hd, hs, wE, mE⟩ := Row.cell_slv Tryz.underlying22 Tryz.underlying50 cells_u32 g1
  obtain ⟨n1, rfl, -, -, w1⟩ := open_int Tryz.underlying3 (hval 1 3 v1 rfl rfl) h1
  obtain ⟨Ab, cb, lb, mb, rfl, hcb, h63b, -, hlb, hwb⟩ := Row.open_sl Tryz.underlying25 Tryz.underlying5 cells_u8 (hval 2 25 v2 rfl rfl) h2
  obtain ⟨Ac, cc, lc, mc, rfl, hcc, h63c, -, hlc, hwc⟩ := Row.open_sl Tryz.underlying25 Tryz.underlying5 cells_u8 (hval 3 25 v3 rfl rfl) h3
  exact verifies_k (of_laid hL) ⟨A, c, rfl, hc, hr⟩ ⟨B, d, rfl, hd, hs⟩ (fun x h => Row.wf_u32 (wN x h)) (fun x h => Row.wf_u32 (wE x h)) (by unfold maxLen at mN; omega) (by unfold maxLen at mE; omega) ⟨Ab, cb, rfl, hcb, hlb⟩ (byte_of hwb) (by unfold maxLen at h63b; omega) ⟨Ac, cc, rfl, hcc, hlc⟩ (byte_of hwc) (by unfold maxLen at h63c; omega) fun w' f => ⟨rfl, f⟩
theorem rsaVerifies_lifted (os : Os) (started : os.Started) (H : Type) (enc : TypeId × Value → H) :
    ReturnsInHanded {} Tryz.checked os 3 .any (fun w args => (Rows.rsaVerifiesSpec.pre enc Tryz.prog Tryz.f3 [] false w args ∧ laidMetH Tryz.prog laid2 w) ∧ sizedMet enc Tryz.prog Tryz.f3 (OpenSpec.ofChange Rows.rsaVerifiesSpec) false w args)
      (Rows.rsaVerifiesSpec.post enc Tryz.prog Tryz.f3 false true false false) :=
  Row.lifted_of (C := Tryz.checked) (X := fun w _ => laidMetH Tryz.prog laid2 w) (fun _ _ _ hh h => h.of_heap hh) own started (by kernel_rfl) Tryz.func3
    (ChangeSpec.witness_shaped (enc := enc) (C := Tryz.checked) (os := os) (X := fun w _ => laidMetH Tryz.prog laid2 w) false (World.laidAll Tryz.prog os laid2) #[.agg #[.slice none 0 0, .slice none 0 0], .int .i64 0, .slice none 0 0, .slice none 0 0] 8 (World.laidAll_os _ _ _) (lay_shaped os) (by kernel_rfl) (by kernel_rfl) (by kernel_rfl) (door_met os _))
    laidOut (tb := 4) (by kernel_rfl) Tryz.underlying4 rfl (of_decide_eq_true (by kernel_rfl)) (fun ds h => by rw [show Tryz.f3.params.size = 4 by kernel_rfl] at h; obtain ⟨a, b, c, d, rfl⟩ := Row.len4 h; exact ⟨rfl, rfl, rfl⟩)
    (fun W base args ds p hA hval hz hL => rsaVerifies_walk (enc := enc) W base args ds p hA hval hz hL)
theorem rsaVerifies_holds : Rows.RsaVerifiesSaid :=
  OpenClaim.holds_of_wide 3 Tryz.f3 rfl rfl rfl rfl rfl rfl rfl ⟨rfl, rfl, rfl, rfl, rfl⟩ rfl rfl rfl rfl rfl (by kernel_rfl) Tryz.func3 (by kernel_rfl)
    (of_decide_eq_true (by kernel_rfl)) (by unfold Func.isWrapper; first | (rw [if_pos (by decide +kernel)]; kernel_rfl) | (rw [if_neg (by decide +kernel)]; exact ⟨rfl, rfl⟩))
    (fun os started H enc _ => rsaVerifies_lifted os started H enc)
theorem rsaVerifies_card : Rows.RsaVerifiesCardSaid :=
  Claim7.holds_tied_plain_at .later [] [.data, .data, .data, .pinned] true (true, "ed0f270b3f953eab1ddec2cd987d6191db15485d6d846c111d670dab35a1f37a") false
    rsaVerifies_holds (fun _ h => by cases h) (by kernel_rfl) (fun _ h => by cases h) rsaVerifies_row_tie rfl ⟨rfl, rfl⟩ (by kernel_rfl) rfl
    (fun f fn hf hfn => by
      obtain rfl : f = 3 := Option.some.inj ((show Tryz.prog.funcNamed "chirograph/chirographlaw08.RsaVerifies" = some 3 by kernel_rfl).symm.trans hf) |>.symm
      obtain rfl : fn = Tryz.f3 := (Option.some.inj (Tryz.func3.symm.trans hfn)).symm
      exact ⟨by kernel_rfl, stand_of (by kernel_rfl)⟩)
    (by kernel_rfl)
end Go.Proofs.YtcgplgpdcfocpaaGreatDoor
end
