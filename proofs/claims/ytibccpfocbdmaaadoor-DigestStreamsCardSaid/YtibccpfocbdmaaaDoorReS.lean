/- DigestStreams: its walk. -/
import Derived.Test.YtibccpfocbdmaaaDoorRe9
set_option linter.unusedVariables false
set_option linter.unusedSimpArgs false
namespace Go.Proofs.YtibccpfocbdmaaaDoor.Spec
open Go Go.RowKit Go.Proofs Go.Proofs.YtibccpfocbdmaaaDoor.Eng Go.Proofs.YtibccpfocbdmaaaDoor.Code
set_option maxRecDepth 100000
attribute [local irreducible] callK S.W opsW scrW one
attribute [local irreducible] dig

theorem Hw.fr' {w0 w w' : World} {hb : Nat} {rv : Value} {alg : Int} {m : List Int} (h : Hw w0 w hb rv alg m) {P : Nat → Prop} (f : Fr w w' P) (hp : ∀ b, hP hb rv b → ¬ P b) : Hw w0 w' hb rv alg m :=
  ⟨⟨h.h.hc.fr f (hp _ (.inl rfl)), h.h.a1, h.h.a4, h.h.sl.fr f (fun b e => hp b (.inr e)), h.h.hi, h.h.ri⟩, h.up, h.upr⟩
theorem Lnt.sl {w0 w : World} {v : Value} {l : List Int} {x y : Int} (h : Lnt .u8 w0 w v l x y) : Sl .u8 w v l := by
  obtain ⟨b, pad, rfl, hB, hb⟩ := h.ex
  refine .inr ⟨b, [x, y] ++ pad, ?_, by rw [← List.append_assoc]; exact hB⟩
  simp only [List.length_append, List.length_cons, List.length_nil]
theorem Lnt.ro {w0 w : World} {b n c : Nat} {l : List Int} {x y : Int} {P : Nat → Prop} (h : Lnt .u8 w0 w (.slice (some ⟨b, 0, none⟩) n c) l x y) (hp : ¬ P b) : RO .u8 w (some ⟨b, 0, none⟩) l P := by
  obtain ⟨b', pad, e, hB, hb⟩ := h.ex
  cases e
  refine .inr ⟨_, rfl, hB.lt, hp, ?_⟩
  have := (hB.cellsAt0).take l.length
  rw [nums_take] at this
  simpa using this
theorem LL.atN {w : World} {A : Option Addr} {l : List (List Int)} {hs : List Value} (h : LL w A l hs) {k : Nat} (hk : k < l.length) : ∃ ad p B c', A = some ad ∧ l[k]? = some p ∧ p.length ≤ c' ∧ ∀ w', Fr w w' nob → w'.cell? (ad.add k) = some (.slice B p.length c') ∧ Rd w' B (nums .u8 p) := by
  have hk' : k < hs.length := by rw [h.len]; exact hk
  obtain ⟨ad, e, hc⟩ := h.rd.at (List.getElem?_eq_getElem hk')
  obtain ⟨B, c', e1, h1, h2⟩ := h.each k _ _ (List.getElem?_eq_getElem hk) (List.getElem?_eq_getElem hk')
  refine ⟨ad, _, B, c', e, List.getElem?_eq_getElem hk, h1, fun w' f => ⟨?_, h2.nb f⟩⟩
  obtain ⟨ad', e', hc'⟩ := (h.rd.nb f).at (List.getElem?_eq_getElem hk')
  rw [e] at e'
  cases e'
  rw [hc', e1]
/-- One round. -/
structure Rnd (w0 w : World) (hb : Nat) (rv V : Value) (alg : Int) (m : List Int) : Prop where
  h : Hw w0 w hb rv alg m
  g : Gw .u8 w0 w V m
  sep : ∀ b, hP hb rv b → blkOf V ≠ some b
theorem Rnd.nb {w0 w w' : World} {hb : Nat} {rv V : Value} {alg : Int} {m : List Int} (h : Rnd w0 w hb rv V alg m) (f : Fr w w' nob) : Rnd w0 w' hb rv V alg m := ⟨h.h.nb f, h.g.step f, h.sep⟩

set_option maxHeartbeats 2000000 in
theorem streams_spec {w : World} (hT : Tb w) (alg : Int) {A : Option Addr} {n c : Nat} {l : List (List Int)} {hs : List Value} (hl : LL w A l hs) (hn : l.length = n) (h63 : n ≤ 9223372036854775807) (hb : ∀ p ∈ l, ∀ x ∈ p, 0 ≤ x ∧ x < 256) (K : Value → World → Prop)
    (hK : ∀ w', Fr w w' nob → K (.bool true) w') : callK Tryd.prog 7 [.int .i64 alg, .slice A n c] w K := by
  refine call_of Tryd.func7 Code.h7 (by simp [Code.c7]) ?_
  simp (disch := omega) only [EO, ↓EP, EQ, EM, ↓reduceIte, Int.reduceAdd, Int.reduceEq, Int.reduceLE, Int.reduceLT, Int.reduceMul, Int.reduceNeg, Int.reducePow, Int.reduceSub, Int.reduceToNat, Nat.reduceAdd, Nat.reduceEqDiff, Nat.reduceLT, Nat.reduceLeDiff, Nat.reduceMul, reduceCtorEq, Code.c7]
  refine much_spec hl hn h63 4000 (by omega) _ (fun ht h1000 => ?_) ?_
  rotate_left
  · simp (disch := omega) only [EO, ↓EP, EQ, EM, ↓reduceIte, Int.reduceAdd, Int.reduceEq, Int.reduceLE, Int.reduceLT, Int.reduceMul, Int.reduceNeg, Int.reducePow, Int.reduceSub, Int.reduceToNat, Nat.reduceAdd, Nat.reduceEqDiff, Nat.reduceLT, Nat.reduceLeDiff, Nat.reduceMul, reduceCtorEq]
    refine live_spec hT _ fun w1 f1 => ?_
    simp (disch := omega) only [EO, ↓EP, EQ, EM, ↓reduceIte, Int.reduceAdd, Int.reduceEq, Int.reduceLE, Int.reduceLT, Int.reduceMul, Int.reduceNeg, Int.reducePow, Int.reduceSub, Int.reduceToNat, Nat.reduceAdd, Nat.reduceEqDiff, Nat.reduceLT, Nat.reduceLeDiff, Nat.reduceMul, reduceCtorEq]
    exact hK w1 f1
  subst hn
  by_cases h60 : (60 : Int) < (l.length : Int)
  · simp (disch := omega) only [EO, ↓EP, EQ, EM, ↓reduceIte, Int.reduceAdd, Int.reduceEq, Int.reduceLE, Int.reduceLT, Int.reduceMul, Int.reduceNeg, Int.reducePow, Int.reduceSub, Int.reduceToNat, Nat.reduceAdd, Nat.reduceEqDiff, Nat.reduceLT, Nat.reduceLeDiff, Nat.reduceMul, reduceCtorEq]
    refine live_spec hT _ fun w1 f1 => ?_
    simp (disch := omega) only [EO, ↓EP, EQ, EM, ↓reduceIte, Int.reduceAdd, Int.reduceEq, Int.reduceLE, Int.reduceLT, Int.reduceMul, Int.reduceNeg, Int.reducePow, Int.reduceSub, Int.reduceToNat, Nat.reduceAdd, Nat.reduceEqDiff, Nat.reduceLT, Nat.reduceLeDiff, Nat.reduceMul, reduceCtorEq]
    exact hK w1 f1
  simp (disch := omega) only [EO, ↓EP, EQ, EM, ↓reduceIte, Int.reduceAdd, Int.reduceEq, Int.reduceLE, Int.reduceLT, Int.reduceMul, Int.reduceNeg, Int.reducePow, Int.reduceSub, Int.reduceToNat, Nat.reduceAdd, Nat.reduceEqDiff, Nat.reduceLT, Nat.reduceLeDiff, Nat.reduceMul, reduceCtorEq]
  have lt := hT.lt
  refine new_spec alg lt _ (fun a1 a4 w1 lt1 H1 f1 => ?_) (fun ha w1 f1 => ?_)
  rotate_left
  · have hS := size_no' ha
    simp (disch := omega) only [EO, ↓EP, EQ, EM, ↓reduceIte, Int.reduceAdd, Int.reduceEq, Int.reduceLE, Int.reduceLT, Int.reduceMul, Int.reduceNeg, Int.reducePow, Int.reduceSub, Int.reduceToNat, Nat.reduceAdd, Nat.reduceEqDiff, Nat.reduceLT, Nat.reduceLeDiff, Nat.reduceMul, reduceCtorEq]
    refine rsize_spec alg _ _ ?_
    simp (disch := omega) only [EO, ↓EP, EQ, EM, ↓reduceIte, Int.reduceAdd, Int.reduceEq, Int.reduceLE, Int.reduceLT, Int.reduceMul, Int.reduceNeg, Int.reducePow, Int.reduceSub, Int.reduceToNat, Nat.reduceAdd, Nat.reduceEqDiff, Nat.reduceLT, Nat.reduceLeDiff, Nat.reduceMul, reduceCtorEq, hS, Option.isNone_none, Bool.xor_false]
    refine num_spec 1 _ _ ?_
    simp (disch := omega) only [EO, ↓EP, EQ, EM, ↓reduceIte, Int.reduceAdd, Int.reduceEq, Int.reduceLE, Int.reduceLT, Int.reduceMul, Int.reduceNeg, Int.reducePow, Int.reduceSub, Int.reduceToNat, Nat.reduceAdd, Nat.reduceEqDiff, Nat.reduceLT, Nat.reduceLeDiff, Nat.reduceMul, reduceCtorEq, Option.isNone_none, Bool.xor_false]
    refine live_spec (hT.nb f1) _ fun w2 f2 => ?_
    simp (disch := omega) only [EO, ↓EP, EQ, EM, ↓reduceIte, Int.reduceAdd, Int.reduceEq, Int.reduceLE, Int.reduceLT, Int.reduceMul, Int.reduceNeg, Int.reducePow, Int.reduceSub, Int.reduceToNat, Nat.reduceAdd, Nat.reduceEqDiff, Nat.reduceLT, Nat.reduceLeDiff, Nat.reduceMul, reduceCtorEq]
    exact hK w2 (f1.nb f2)
  have H1 := hw_new (Fr.refl w nob) H1 rfl
  obtain ⟨hb1, ehb⟩ : ∃ hb1, hb1 = w.heap.size := ⟨_, rfl⟩
  simp only [← ehb] at H1 ⊢
  obtain ⟨z1, z2⟩ := size_valid' a1 a4
  have dl := fun m => dlen' a1 a4 m
  obtain ⟨S, hS⟩ : ∃ S : Nat, sizeI alg = S := ⟨(sizeI alg).toNat, by omega⟩
  simp only [hS, Int.toNat_natCast] at dl
  rw [hS] at z1 z2
  simp (disch := omega) only [EO, ↓EP, EQ, EM, ↓reduceIte, Int.reduceAdd, Int.reduceEq, Int.reduceLE, Int.reduceLT, Int.reduceMul, Int.reduceNeg, Int.reducePow, Int.reduceSub, Int.reduceToNat, Nat.reduceAdd, Nat.reduceEqDiff, Nat.reduceLT, Nat.reduceLeDiff, Nat.reduceMul, reduceCtorEq]
  refine rsize_spec alg _ _ ?_
  simp (disch := omega) only [EO, ↓EP, EQ, EM, ↓reduceIte, Int.reduceAdd, Int.reduceEq, Int.reduceLE, Int.reduceLT, Int.reduceMul, Int.reduceNeg, Int.reducePow, Int.reduceSub, Int.reduceToNat, Nat.reduceAdd, Nat.reduceEqDiff, Nat.reduceLT, Nat.reduceLeDiff, Nat.reduceMul, reduceCtorEq, hS]
  refine num_spec 0 _ _ ?_
  simp (disch := omega) only [EO, ↓EP, EQ, EM, ↓reduceIte, Int.reduceAdd, Int.reduceEq, Int.reduceLE, Int.reduceLT, Int.reduceMul, Int.reduceNeg, Int.reducePow, Int.reduceSub, Int.reduceToNat, Nat.reduceAdd, Nat.reduceEqDiff, Nat.reduceLT, Nat.reduceLeDiff, Nat.reduceMul, reduceCtorEq, Option.isNone_some]
  refine loop_inv (fun t ρ w' => ∃ (k : Nat) (V rv : Value), ρ 8 = .int .i64 k ∧ ρ 7 = V ∧ k ≤ l.length ∧ t = l.length - k ∧ Rnd w w' hb1 rv V alg (l.take k).flatten) l.length ⟨0, .slice none 0 0, .slice none 0 0, by simp (disch := omega) only [EO, ↓EP, EQ, EM, ↓reduceIte, Int.reduceAdd, Int.reduceEq, Int.reduceLE, Int.reduceLT, Int.reduceMul, Int.reduceNeg, Int.reducePow, Int.reduceSub, Int.reduceToNat, Nat.reduceAdd, Nat.reduceEqDiff, Nat.reduceLT, Nat.reduceLeDiff, Nat.reduceMul, reduceCtorEq], by simp (disch := omega) only [EO, ↓EP, EQ, EM, ↓reduceIte, Int.reduceAdd, Int.reduceEq, Int.reduceLE, Int.reduceLT, Int.reduceMul, Int.reduceNeg, Int.reducePow, Int.reduceSub, Int.reduceToNat, Nat.reduceAdd, Nat.reduceEqDiff, Nat.reduceLT, Nat.reduceLeDiff, Nat.reduceMul, reduceCtorEq], by omega, rfl, by simpa using H1, by simpa using (Gw.nil .u8 w1).from f1, fun b _ e => by cases e⟩ ?_
  rintro t ρ w2 hf ⟨k, V, rv, h8, h7, hk, rfl, R2⟩ N hN
  have r0 : ρ 0 = .int .i64 alg := by rw [hf 0 rfl]; simp (disch := omega) only [EO, ↓EP, EQ, EM, ↓reduceIte, Int.reduceAdd, Int.reduceEq, Int.reduceLE, Int.reduceLT, Int.reduceMul, Int.reduceNeg, Int.reducePow, Int.reduceSub, Int.reduceToNat, Nat.reduceAdd, Nat.reduceEqDiff, Nat.reduceLT, Nat.reduceLeDiff, Nat.reduceMul, reduceCtorEq]
  have r1 : ρ 1 = .slice A l.length c := by rw [hf 1 rfl]; simp (disch := omega) only [EO, ↓EP, EQ, EM, ↓reduceIte, Int.reduceAdd, Int.reduceEq, Int.reduceLE, Int.reduceLT, Int.reduceMul, Int.reduceNeg, Int.reducePow, Int.reduceSub, Int.reduceToNat, Nat.reduceAdd, Nat.reduceEqDiff, Nat.reduceLT, Nat.reduceLeDiff, Nat.reduceMul, reduceCtorEq]
  have r5 : ρ 5 = .pointer (some ⟨hb1, 0, none⟩) := by rw [hf 5 rfl]; simp (disch := omega) only [EO, ↓EP, EQ, EM, ↓reduceIte, Int.reduceAdd, Int.reduceEq, Int.reduceLE, Int.reduceLT, Int.reduceMul, Int.reduceNeg, Int.reducePow, Int.reduceSub, Int.reduceToNat, Nat.reduceAdd, Nat.reduceEqDiff, Nat.reduceLT, Nat.reduceLeDiff, Nat.reduceMul, reduceCtorEq]
  clear hf
  have f2 := R2.g.fr
  obtain ⟨VA, vc, rfl, hvc, hVR⟩ := readn R2.g.sl rfl
  have hft := flat_total (l.take k)
  have hbm : ∀ (j : Nat), ∀ x ∈ (l.take j).flatten, 0 ≤ x ∧ x < 256 := fun j x hx => by
    obtain ⟨p, hp, hxp⟩ := List.mem_flatten.1 hx
    exact hb p (List.mem_of_mem_take hp) x hxp
  by_cases hkl : (k : Int) < (l.length : Int)
  · obtain ⟨ad, p, B, c', rfl, hp, hpc, hat⟩ := hl.atN (k := k) (by omega)
    have hts := total_succ hp
    have ht2 := total_take l (k + 1)
    have hft1 := flat_total (l.take (k + 1))
    have hM := flat_take hp
    have hbM := hbm (k + 1)
    obtain ⟨hcell, hpr⟩ := hat w2 f2
    simp (disch := omega) only [EO, ↓EP, EQ, EM, ↓reduceIte, Int.reduceAdd, Int.reduceEq, Int.reduceLE, Int.reduceLT, Int.reduceMul, Int.reduceNeg, Int.reducePow, Int.reduceSub, Int.reduceToNat, Nat.reduceAdd, Nat.reduceEqDiff, Nat.reduceLT, Nat.reduceLeDiff, Nat.reduceMul, reduceCtorEq, h7, h8, r0, r1, r5, hcell]
    refine lent_spec rfl hpr (by omega) _ fun v w3 hv f3 => ?_
    have R3 := R2.nb f3
    obtain ⟨b, pad, rfl, hB, hbb⟩ := hv.ex
    have old := R2.h.old
    have nbp : ¬ hP hb1 rv b := fun e => by have := old b e; omega
    have lb := hB.lt
    have ltV : ∀ b', blkOf (.slice VA ((l.take k).flatten).length vc) = some b' → b' < w2.heap.size := fun b' e => R2.g.sl.lt e
    have f23 := f3.size
    simp (disch := omega) only [EO, ↓EP, EQ, EM, ↓reduceIte, Int.reduceAdd, Int.reduceEq, Int.reduceLE, Int.reduceLT, Int.reduceMul, Int.reduceNeg, Int.reducePow, Int.reduceSub, Int.reduceToNat, Nat.reduceAdd, Nat.reduceEqDiff, Nat.reduceLT, Nat.reduceLeDiff, Nat.reduceMul, reduceCtorEq, h7, h8, r0, r1, r5, Bool.not_true]
    refine write_spec R3.h.h (hT.nb R3.g.fr) (hv.ro nbp) (by omega) (by omega) _ fun rv4 w4 H4 T4 u4 f4 => ?_
    have hv4 := hv.fr f4 (fun b' e => by cases e; exact nbp)
    have f04 : Fr w w4 nob := R3.g.fr.own f4 R3.h.off
    have Hw4 : Hw w w4 hb1 rv4 alg ((l.take k).flatten ++ p) := ⟨H4, R2.h.up, fun b' e => by
      rcases u4 b' e with h | h
      · exact R2.h.upr b' h
      · have := R3.g.fr.size; omega⟩
    have G4 := R3.g.other f4 (fun b' e h => R2.sep b' h e) (fun b' hb' h => by have := R3.h.off b' h; omega)
    have sep4 : ∀ b', hP hb1 rv4 b' → blkOf (.slice VA ((l.take k).flatten).length vc) ≠ some b' := fun b' h e => by
      rcases h with h | h
      · exact R2.sep b' (.inl h) e
      · rcases u4 b' h with h | h
        · exact R2.sep b' (.inr h) e
        · have := ltV b' e; omega
    have sepb : ∀ b', hP hb1 rv4 b' → b' ≠ b := fun b' h e => by
      subst e
      rcases h with h | h
      · exact nbp (.inl h)
      · rcases u4 b' h with h | h
        · exact nbp (.inr h)
        · omega
    have f34 := f4.size
    simp (disch := omega) only [EO, ↓EP, EQ, EM, ↓reduceIte, Int.reduceAdd, Int.reduceEq, Int.reduceLE, Int.reduceLT, Int.reduceMul, Int.reduceNeg, Int.reducePow, Int.reduceSub, Int.reduceToNat, Nat.reduceAdd, Nat.reduceEqDiff, Nat.reduceLT, Nat.reduceLeDiff, Nat.reduceMul, reduceCtorEq, h7, h8, r0, r1, r5, Bool.not_true]
    refine num_spec 0 _ _ ?_
    have hc4 := hat w4 f04
    simp (disch := omega) only [EO, ↓EP, EQ, EM, ↓reduceIte, Int.reduceAdd, Int.reduceEq, Int.reduceLE, Int.reduceLT, Int.reduceMul, Int.reduceNeg, Int.reducePow, Int.reduceSub, Int.reduceToNat, Nat.reduceAdd, Nat.reduceEqDiff, Nat.reduceLT, Nat.reduceLeDiff, Nat.reduceMul, reduceCtorEq, h7, h8, r0, r1, r5, hc4.1]
    refine kept_spec hv4 rfl hc4.2 (by omega) _ fun w5 f5 => ?_
    have hv5 := hv4.nb f5
    simp (disch := omega) only [EO, ↓EP, EQ, EM, ↓reduceIte, Int.reduceAdd, Int.reduceEq, Int.reduceLE, Int.reduceLT, Int.reduceMul, Int.reduceNeg, Int.reducePow, Int.reduceSub, Int.reduceToNat, Nat.reduceAdd, Nat.reduceEqDiff, Nat.reduceLT, Nat.reduceLeDiff, Nat.reduceMul, reduceCtorEq, h7, h8, r0, r1, r5, Bool.not_true]
    refine spoil_spec hv5.sl (by omega) _ fun w6 s6 f6 => ?_
    have f05 := f04.nb f5
    have zw := f2.size
    have f06 : Fr w w6 nob := f05.own f6 fun b' e => by cases e; show w.heap.size ≤ b; omega
    have H6 := (Hw4.nb f5).fr' f6 (fun b' h e => by cases e; exact sepb _ h rfl)
    have G6 := (G4.step f5).other f6 (fun b' e h => by
      cases h
      have := ltV _ e
      have e' : (⟨b, 0, none⟩ : Addr).block = b := rfl
      omega) (fun b' hb' h => by
      cases h
      have e' : (⟨b, 0, none⟩ : Addr).block = b := rfl
      omega)
    have hc6 := hat w6 f06
    simp (disch := omega) only [EO, ↓EP, EQ, EM, ↓reduceIte, Int.reduceAdd, Int.reduceEq, Int.reduceLE, Int.reduceLT, Int.reduceMul, Int.reduceNeg, Int.reducePow, Int.reduceSub, Int.reduceToNat, Nat.reduceAdd, Nat.reduceEqDiff, Nat.reduceLT, Nat.reduceLeDiff, Nat.reduceMul, reduceCtorEq, h7, h8, r0, r1, r5, hc6.1]
    refine app_num G6.sl rfl hc6.2 (by omega) (by omega) fun V7 w7 a7 => ?_
    have G7 := G6.apd a7
    have H7 := H6.fr' a7.fr sep4
    have f07 := G7.fr
    have sep7 : ∀ b', hP hb1 rv4 b' → blkOf V7 ≠ some b' := fun b' h e => by
      rcases a7.where_ with hw | hw
      · exact sep4 b' h (hw ▸ e)
      · have := hw b' e
        have := H6.old b' h
        omega
    rw [← hM] at G7 H7
    obtain ⟨VA7, vc7, rfl, hvc7, hVR7⟩ := readn G7.sl rfl
    simp (disch := omega) only [EO, ↓EP, EQ, EM, ↓reduceIte, Int.reduceAdd, Int.reduceEq, Int.reduceLE, Int.reduceLT, Int.reduceMul, Int.reduceNeg, Int.reducePow, Int.reduceSub, Int.reduceToNat, Nat.reduceAdd, Nat.reduceEqDiff, Nat.reduceLT, Nat.reduceLeDiff, Nat.reduceMul, reduceCtorEq, h7, h8, r0, r1, r5, Bool.not_true]
    refine hw_sum H7 f07 hT (by omega) hS _ fun A8 c8 w8 hc8 s8 u8 H8 f8 g8 => ?_
    have G8 := G7.step g8
    simp (disch := omega) only [EO, ↓EP, EQ, EM, ↓reduceIte, Int.reduceAdd, Int.reduceEq, Int.reduceLE, Int.reduceLT, Int.reduceMul, Int.reduceNeg, Int.reducePow, Int.reduceSub, Int.reduceToNat, Nat.reduceAdd, Nat.reduceEqDiff, Nat.reduceLT, Nat.reduceLeDiff, Nat.reduceMul, reduceCtorEq, h7, h8, r0, r1, r5, Bool.not_true]
    refine rdigest_vw a1 a4 G8.vw (by omega) hbM _ fun v9 w9 g9 => ?_
    obtain ⟨A9, c9, rfl, hc9, hR9⟩ := readn g9.sl (dl _)
    simp (disch := omega) only [EO, ↓EP, EQ, EM, ↓reduceIte, Int.reduceAdd, Int.reduceEq, Int.reduceLE, Int.reduceLT, Int.reduceMul, Int.reduceNeg, Int.reducePow, Int.reduceSub, Int.reduceToNat, Nat.reduceAdd, Nat.reduceEqDiff, Nat.reduceLT, Nat.reduceLeDiff, Nat.reduceMul, reduceCtorEq, h7, h8, r0, r1, r5, Bool.not_true]
    refine same_t (dl _) (dl _) (s8.nb g9.fr).rdOf g9.sl.rdOf (by omega) _ fun w10 f10 => ?_
    have H10 := (H8.nb g9.fr).nb f10
    simp (disch := omega) only [EO, ↓EP, EQ, EM, ↓reduceIte, Int.reduceAdd, Int.reduceEq, Int.reduceLE, Int.reduceLT, Int.reduceMul, Int.reduceNeg, Int.reducePow, Int.reduceSub, Int.reduceToNat, Nat.reduceAdd, Nat.reduceEqDiff, Nat.reduceLT, Nat.reduceLeDiff, Nat.reduceMul, reduceCtorEq, h7, h8, r0, r1, r5, Bool.not_true]
    refine len_spec H10.h _ ?_
    simp (disch := omega) only [EO, ↓EP, EQ, EM, ↓reduceIte, Int.reduceAdd, Int.reduceEq, Int.reduceLE, Int.reduceLT, Int.reduceMul, Int.reduceNeg, Int.reducePow, Int.reduceSub, Int.reduceToNat, Nat.reduceAdd, Nat.reduceEqDiff, Nat.reduceLT, Nat.reduceLeDiff, Nat.reduceMul, reduceCtorEq, h7, h8, r0, r1, r5, Bool.not_true]
    refine alg_spec H10.h _ ?_
    simp (disch := omega) only [EO, ↓EP, EQ, EM, ↓reduceIte, Int.reduceAdd, Int.reduceEq, Int.reduceLE, Int.reduceLT, Int.reduceMul, Int.reduceNeg, Int.reducePow, Int.reduceSub, Int.reduceToNat, Nat.reduceAdd, Nat.reduceEqDiff, Nat.reduceLT, Nat.reduceLeDiff, Nat.reduceMul, reduceCtorEq, h7, h8, r0, r1, r5, Bool.not_true]
    exact hN (l.length - (k + 1)) _ _ (by omega) ⟨k + 1, _, rv4, by simp (disch := omega) only [EO, ↓EP, EQ, EM, ↓reduceIte, Int.reduceAdd, Int.reduceEq, Int.reduceLE, Int.reduceLT, Int.reduceMul, Int.reduceNeg, Int.reducePow, Int.reduceSub, Int.reduceToNat, Nat.reduceAdd, Nat.reduceEqDiff, Nat.reduceLT, Nat.reduceLeDiff, Nat.reduceMul, reduceCtorEq, h8, Int.natCast_add], by simp (disch := omega) only [EO, ↓EP, EQ, EM, ↓reduceIte, Int.reduceAdd, Int.reduceEq, Int.reduceLE, Int.reduceLT, Int.reduceMul, Int.reduceNeg, Int.reducePow, Int.reduceSub, Int.reduceToNat, Nat.reduceAdd, Nat.reduceEqDiff, Nat.reduceLT, Nat.reduceLeDiff, Nat.reduceMul, reduceCtorEq], by omega, rfl, H10, (G8.step g9.fr).step f10, sep7⟩
  · have hkl' : k = l.length := by omega
    subst hkl'
    clear hN
    have hbM := hbm l.length
    rw [List.take_length] at R2 hft hbM
    rw [List.take_length] at h7
    simp (disch := omega) only [EO, ↓EP, EQ, EM, ↓reduceIte, Int.reduceAdd, Int.reduceEq, Int.reduceLE, Int.reduceLT, Int.reduceMul, Int.reduceNeg, Int.reducePow, Int.reduceSub, Int.reduceToNat, Nat.reduceAdd, Nat.reduceEqDiff, Nat.reduceLT, Nat.reduceLeDiff, Nat.reduceMul, reduceCtorEq, h7, h8, r0, r1, r5, Bool.not_true]
    refine hw_sum R2.h f2 hT (by omega) hS _ fun A8 c8 w8 hc8 s8 u8 H8 f8 g8 => ?_
    have G8 := R2.g.step g8
    simp (disch := omega) only [EO, ↓EP, EQ, EM, ↓reduceIte, Int.reduceAdd, Int.reduceEq, Int.reduceLE, Int.reduceLT, Int.reduceMul, Int.reduceNeg, Int.reducePow, Int.reduceSub, Int.reduceToNat, Nat.reduceAdd, Nat.reduceEqDiff, Nat.reduceLT, Nat.reduceLeDiff, Nat.reduceMul, reduceCtorEq, h7, h8, r0, r1, r5, Bool.not_true]
    refine rdigest_vw a1 a4 G8.vw (by omega) hbM _ fun v9 w9 g9 => ?_
    obtain ⟨A9, c9, rfl, hc9, hR9⟩ := readn g9.sl (dl _)
    simp (disch := omega) only [EO, ↓EP, EQ, EM, ↓reduceIte, Int.reduceAdd, Int.reduceEq, Int.reduceLE, Int.reduceLT, Int.reduceMul, Int.reduceNeg, Int.reducePow, Int.reduceSub, Int.reduceToNat, Nat.reduceAdd, Nat.reduceEqDiff, Nat.reduceLT, Nat.reduceLeDiff, Nat.reduceMul, reduceCtorEq, h7, h8, r0, r1, r5, Bool.not_true]
    refine same_t (dl _) (dl _) (s8.nb g9.fr).rdOf g9.sl.rdOf (by omega) _ fun w10 f10 => ?_
    simp (disch := omega) only [EO, ↓EP, EQ, EM, ↓reduceIte, Int.reduceAdd, Int.reduceEq, Int.reduceLE, Int.reduceLT, Int.reduceMul, Int.reduceNeg, Int.reducePow, Int.reduceSub, Int.reduceToNat, Nat.reduceAdd, Nat.reduceEqDiff, Nat.reduceLT, Nat.reduceLeDiff, Nat.reduceMul, reduceCtorEq]
    refine live_spec (hT.nb ((f8.nb g9.fr).nb f10)) _ fun w11 f11 => ?_
    simp (disch := omega) only [EO, ↓EP, EQ, EM, ↓reduceIte, Int.reduceAdd, Int.reduceEq, Int.reduceLE, Int.reduceLT, Int.reduceMul, Int.reduceNeg, Int.reducePow, Int.reduceSub, Int.reduceToNat, Nat.reduceAdd, Nat.reduceEqDiff, Nat.reduceLT, Nat.reduceLeDiff, Nat.reduceMul, reduceCtorEq]
    exact hK w11 (((f8.nb g9.fr).nb f10).nb f11)
end Go.Proofs.YtibccpfocbdmaaaDoor.Spec
