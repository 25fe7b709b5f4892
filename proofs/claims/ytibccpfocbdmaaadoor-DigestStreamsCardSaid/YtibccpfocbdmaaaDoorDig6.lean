/- The digests: how bytes are taken in. -/
import Derived.Test.YtibccpfocbdmaaaDoorDig5
set_option linter.unusedVariables false
set_option linter.unusedSimpArgs false
namespace Go.Proofs.YtibccpfocbdmaaaDoor.Spec
open Go Go.RowKit Go.Proofs Go.Proofs.YtibccpfocbdmaaaDoor.Eng Go.Proofs.YtibccpfocbdmaaaDoor.Code
set_option maxRecDepth 100000
attribute [local irreducible] one

def st0 (alg : Int) : List Int × List Int :=
  if alg = 1 then ([1732584193, 4023233417, 2562383102, 271733878, 3285377520, 0, 0, 0], zs 8)
  else if alg = 2 then ([1779033703, 3144134277, 1013904242, 2773480762, 1359893119, 2600822924, 528734635, 1541459225], zs 8)
  else if alg = 3 then (zs 8, [14680500436340154072, 7105036623409894663, 10473403895298186519, 1526699215303891257, 7436329637833083697, 10282925794625328401, 15784041429090275239, 5167115440072839076])
  else (zs 8, [7640891576956012808, 13503953896175478587, 4354685564936845355, 11912009170470909681, 5840696475078001361, 11170449401992604703, 2270897969802886507, 6620516959819538809])
def part (bs : Nat) (M : List Int) (j : Nat) : List Int := (M.drop (j * bs)).take bs
def runN (alg : Int) (M : List Int) (j : Nat) : List Int × List Int := rounds (fun j s => mix alg s (part (blockI alg) M j)) j (st0 alg)
def run (alg : Int) (M : List Int) : List Int × List Int := runN alg M (M.length / blockI alg)
def rest (alg : Int) (M : List Int) : List Int := M.drop (M.length / blockI alg * blockI alg)
theorem part_app {bs : Nat} {m p : List Int} {j : Nat} (h : (j + 1) * bs ≤ m.length) : part bs (m ++ p) j = part bs m j := by
  unfold part
  have e : (j + 1) * bs = j * bs + bs := by rw [Nat.add_mul, Nat.one_mul]
  rw [e] at h
  rw [List.drop_append_of_le_length (by omega), List.take_append_of_le_length (by simp; omega)]
theorem runN_app {alg : Int} {m p : List Int} : ∀ {j : Nat}, j * blockI alg ≤ m.length → runN alg (m ++ p) j = runN alg m j
  | 0, _ => by rw [runN, runN, rounds, rounds]
  | j + 1, h => by
    have h' : j * blockI alg ≤ m.length := Nat.le_trans (Nat.mul_le_mul_right _ (by omega)) h
    show mix alg (runN alg (m ++ p) j) (part _ (m ++ p) j) = mix alg (runN alg m j) (part _ m j)
    rw [runN_app h', part_app h]
theorem runN_succ (alg : Int) (M : List Int) (j : Nat) : runN alg M (j + 1) = mix alg (runN alg M j) (part (blockI alg) M j) := rfl
theorem blockI_or {alg : Int} (h : 1 ≤ alg) (h' : alg ≤ 4) : blockI alg = 64 ∨ blockI alg = 128 := by
  have c : alg = 1 ∨ alg = 2 ∨ alg = 3 ∨ alg = 4 := by omega
  rcases c with rfl | rfl | rfl | rfl <;> decide
theorem run_of {alg : Int} (h : 1 ≤ alg) (h' : alg ≤ 4) {M : List Int} {j : Nat} (h1 : j * blockI alg ≤ M.length) (h2 : M.length < j * blockI alg + blockI alg) : M.length / blockI alg = j := by
  have hb := blockI_or h h'
  have hp : 0 < blockI alg := by omega
  apply Nat.le_antisymm
  · apply Nat.le_of_lt_succ
    rw [Nat.div_lt_iff_lt_mul hp, Nat.succ_mul]; exact h2
  · rw [Nat.le_div_iff_mul_le hp]; exact h1
theorem div_facts {alg : Int} (h : 1 ≤ alg) (h' : alg ≤ 4) (m : List Int) : m.length / blockI alg * blockI alg ≤ m.length ∧ m.length < m.length / blockI alg * blockI alg + blockI alg := by
  have hb := blockI_or h h'
  rcases hb with e | e <;> rw [e] <;> omega

/-- The object of a message. -/
structure Hsh (w : World) (hb : Nat) (rv : Value) (alg : Int) (m : List Int) : Prop where
  hc : HC w hb alg (run alg m).1 (run alg m).2 rv m.length
  a1 : 1 ≤ alg
  a4 : alg ≤ 4
  sl : Sl .u8 w rv (rest alg m)
  hi : 1 < hb
  ri : ∀ b, blkOf rv = some b → 1 < b ∧ b ≠ hb

/-- The world within 'Write'. -/
structure Wr (w0 w : World) (hb : Nat) (rv0 : Value) (alg : Int) (s : List Int × List Int) (cv : Value) (n : Int) (x : Value) (r : List Int) : Prop where
  hc : HC w hb alg s.1 s.2 cv n
  sl : Sl .u8 w x r
  sep : ∀ b, blkOf x = some b → 1 < b ∧ b ≠ hb ∧ (blkOf rv0 = some b ∨ w0.heap.size ≤ b)
  tb : Tb w
  fr : Fr w0 w (fun b => b = hb ∨ blkOf rv0 = some b)
def hP (hb : Nat) (rv0 : Value) : Nat → Prop := fun b => b = hb ∨ blkOf rv0 = some b
variable {w0 w w' : World} {hb : Nat} {rv0 cv x : Value} {alg n : Int} {s : List Int × List Int} {r : List Int}
theorem Wr.hb_ (h : Wr w0 w hb rv0 alg s cv n x r) {s' : List Int × List Int} {cv' : Value} {n' : Int} (hi : 1 < hb) (h' : HC w' hb alg s'.1 s'.2 cv' n') (f : Fr w w' (fun b => b = hb)) : Wr w0 w' hb rv0 alg s' cv' n' x r :=
  ⟨h', h.sl.fr f fun b hb => (h.sep b hb).2.1, h.sep, h.tb.fr f (by omega) (by omega), h.fr.trans f fun b _ e => .inl e⟩
theorem Wr.drewN (h : Wr w0 w hb rv0 alg s cv n x r) (k : Nat) : Wr w0 (w.drewN k) hb rv0 alg s cv n x r :=
  ⟨h.hc.fr (Fr.drewN w k nob) (fun x => x), h.sl.drewN k, h.sep, h.tb.fr (Fr.drewN w k nob) (fun x => x) (fun x => x), h.fr.trans (Fr.drewN w k nob) fun b _ e => e.elim⟩
theorem Wr.apd (h : Wr w0 w hb rv0 alg s cv n x r) {v : Value} {l : List Int} (hh : hb < w.heap.size) (a : Apd .u8 w x l v w') : Wr w0 w' hb rv0 alg s cv n v l := by
  have lt := h.tb.lt
  refine ⟨h.hc.fr a.fr fun e => (h.sep _ e).2.1 rfl, a.sl, fun b hb' => ?_, h.tb.fr a.fr (fun e => by have := (h.sep _ e).1; omega) (fun e => by have := (h.sep _ e).1; omega), h.fr.trans a.fr fun b hb' e => ?_⟩
  · rcases a.where_ with e | e
    · exact h.sep b (e ▸ hb')
    · have := e b hb'
      have := h.fr.size
      exact ⟨by omega, by omega, .inr (by omega)⟩
  · rcases (h.sep b e).2.2 with c | c
    · exact .inr c
    · omega
theorem Wr.out (h : Wr w0 w hb rv0 alg s cv n x r) : Wr w0 w hb rv0 alg s cv n (.slice none 0 0) [] :=
  ⟨h.hc, Sl.nil _ _, fun b e => (by cases e), h.tb, h.fr⟩
theorem Wr.hsh (h : Wr w0 w hb rv0 alg (run alg r) x (r.length : Int) x (rest alg r)) (a1 : 1 ≤ alg) (a4 : alg ≤ 4) (hi : 1 < hb) : Hsh w hb x alg r :=
  ⟨h.hc, a1, a4, h.sl, hi, fun b e => ⟨(h.sep b e).1, (h.sep b e).2.1⟩⟩


theorem rest_len {alg : Int} (h : 1 ≤ alg) (h' : alg ≤ 4) (m : List Int) : (rest alg m).length = m.length - m.length / blockI alg * blockI alg := by simp [rest]

set_option maxHeartbeats 2000000 in
theorem write_spec {w : World} {hb : Nat} {rv : Value} {alg : Int} {m p : List Int} (h : Hsh w hb rv alg m) (hT : Tb w) {A : Option Addr} {c : Nat} (hr : RO .u8 w A p (hP hb rv)) (hpc : p.length ≤ c) (hmx : m.length + p.length ≤ 16777216) (K : Value → World → Prop)
    (hK : ∀ rv' w', Hsh w' hb rv' alg (m ++ p) → Tb w' → (∀ b, blkOf rv' = some b → blkOf rv = some b ∨ w.heap.size ≤ b) → Fr w w' (hP hb rv) → K (.int .i64 0) w') : callK Tryd.prog 22 [.pointer (some ⟨hb, 0, none⟩), .slice A p.length c] w K := by
  refine call_of Tryd.func22 Code.h22 (by simp [Code.c22]) ?_
  have ha1 := h.a1
  have ha4 := h.a4
  have hi := h.hi
  have hbs := blockI_or ha1 ha4
  have hlt := h.hc.blk.lt
  obtain ⟨hd1, hd2⟩ := div_facts ha1 ha4 m
  have hrl := rest_len ha1 ha4 m
  obtain ⟨RA, rc, rfl, hrc, hRd, hRb⟩ := h.sl.read
  have W0 : Wr w w hb (.slice RA (rest alg m).length rc) alg (run alg m) (.slice RA (rest alg m).length rc) m.length (.slice RA (rest alg m).length rc) (rest alg m) :=
    ⟨h.hc, h.sl, fun b e => ⟨(h.ri b e).1, (h.ri b e).2, .inl e⟩, hT, Fr.refl _ _⟩
  have fin : ∀ (x : Value) (w9 : World), Wr w w9 hb (.slice RA (rest alg m).length rc) alg (run alg (m ++ p)) x (m ++ p).length x (rest alg (m ++ p)) → K (.int .i64 0) w9 := fun x w9 h9 =>
    hK x w9 (h9.hsh ha1 ha4 hi) h9.tb (fun b e => (h9.sep b e).2.2) h9.fr
  clear hK hRd hRb
  have hn := h.hc.n
  simp (disch := omega) only [Code.c22, EO, ↓EP, EQ, EM, ↓reduceIte, Int.reduceAdd, Int.reduceEq, Int.reduceLE, Int.reduceLT, Int.reduceMul, Int.reduceNeg, Int.reducePow, Int.reduceSub, Int.reduceToNat, Nat.reduceAdd, Nat.reduceEqDiff, Nat.reduceLT, Nat.reduceLeDiff, Nat.reduceMul, reduceCtorEq, hn]
  refine h.hc.stn fun w1 h1 f1 => ?_
  have hml : ((m ++ p).length : Int) = (m.length : Int) + p.length := by simp
  rw [← hml] at h1
  have W1 := W0.hb_ hi h1 f1
  have hr1 := hr.fr (f1.mono (Q := hP hb (.slice RA (rest alg m).length rc)) fun b _ e => .inl e)
  have hal := h1.alg
  have hre := h1.rest
  clear W0 f1 hn
  simp (disch := omega) only [EO, ↓EP, EQ, EM, ↓reduceIte, Int.reduceAdd, Int.reduceEq, Int.reduceLE, Int.reduceLT, Int.reduceMul, Int.reduceNeg, Int.reducePow, Int.reduceSub, Int.reduceToNat, Nat.reduceAdd, Nat.reduceEqDiff, Nat.reduceLT, Nat.reduceLeDiff, Nat.reduceMul, reduceCtorEq, hal]
  refine blocksz_spec alg _ _ ?_
  generalize hL : (rest alg m).length = L at *
  have hrun : run alg m = runN alg (m ++ p) (m.length / blockI alg) := by rw [runN_app hd1]; rfl
  generalize hMd : m ++ p = M at *
  simp (disch := omega) only [EO, ↓EP, EQ, EM, ↓reduceIte, Int.reduceAdd, Int.reduceEq, Int.reduceLE, Int.reduceLT, Int.reduceMul, Int.reduceNeg, Int.reducePow, Int.reduceSub, Int.reduceToNat, Nat.reduceAdd, Nat.reduceEqDiff, Nat.reduceLT, Nat.reduceLeDiff, Nat.reduceMul, reduceCtorEq, W_joinT, hre]
  have hM : M.length = m.length + p.length := by rw [← hMd]; simp
  refine join_cut (fun ρ' w' => ∃ (j : Nat) (A' : Option Addr) (c' : Nat) (X : Value), ρ' 1 = .slice A' (M.length - j * blockI alg) c' ∧ j * blockI alg ≤ M.length ∧ M.length - j * blockI alg ≤ c' ∧ Wr w w' hb (.slice RA L rc) alg (runN alg M j) X M.length X [] ∧ RO .u8 w' A' (M.drop (j * blockI alg)) (hP hb (.slice RA L rc))) ?_ ?_
  · intro N hN
    by_cases hL0 : L = 0
    · subst hL0
      simp (disch := omega) only [EO, ↓EP, EQ, EM, ↓reduceIte, Int.reduceAdd, Int.reduceEq, Int.reduceLE, Int.reduceLT, Int.reduceMul, Int.reduceNeg, Int.reducePow, Int.reduceSub, Int.reduceToNat, Nat.reduceAdd, Nat.reduceEqDiff, Nat.reduceLT, Nat.reduceLeDiff, Nat.reduceMul, reduceCtorEq, W_join, hre]
      refine hN _ _ ⟨m.length / blockI alg, A, c, .slice RA 0 rc, ?_, by omega, by omega, ?_, ?_⟩
      · simp (disch := omega) only [EO, ↓EP, EQ, EM, ↓reduceIte, Int.reduceAdd, Int.reduceEq, Int.reduceLE, Int.reduceLT, Int.reduceMul, Int.reduceNeg, Int.reducePow, Int.reduceSub, Int.reduceToNat, Nat.reduceAdd, Nat.reduceEqDiff, Nat.reduceLT, Nat.reduceLeDiff, Nat.reduceMul, reduceCtorEq]
        congr 1; omega
      · rw [hrun] at W1
        rwa [List.length_eq_zero_iff.1 hL] at W1
      · have e : M.drop (m.length / blockI alg * blockI alg) = p := by
          rw [← hMd, show m.length / blockI alg * blockI alg = m.length by omega]; simp
        rw [e]; exact hr1
    · obtain ⟨k, hk, hk1, hk2⟩ : ∃ k : Nat, (if (blockI alg : Int) - (L : Int) < (p.length : Int) then (blockI alg : Int) - (L : Int) else (p.length : Int)) = (k : Int) ∧ k ≤ p.length ∧ ((L + p.length < blockI alg ∧ k = p.length) ∨ (blockI alg ≤ L + p.length ∧ L + k = blockI alg)) := by
        refine ⟨min p.length (blockI alg - L), ?_, by omega, by omega⟩
        split <;> omega
      simp (disch := omega) only [EO, ↓EP, EQ, EM, ↓reduceIte, Int.reduceAdd, Int.reduceEq, Int.reduceLE, Int.reduceLT, Int.reduceMul, Int.reduceNeg, Int.reducePow, Int.reduceSub, Int.reduceToNat, Nat.reduceAdd, Nat.reduceEqDiff, Nat.reduceLT, Nat.reduceLeDiff, Nat.reduceMul, reduceCtorEq, W_join, hre, hk]
      intro m1
      have W2 : Wr w (w1.drewN (1 + m1)) hb (.slice RA L rc) alg (run alg m) (.slice RA L rc) M.length (.slice RA L rc) (rest alg m) := W1.drewN (1 + m1)
      have hr2 : RO .u8 (w1.drewN (1 + m1)) A p (hP hb (.slice RA L rc)) := hr1.fr (Fr.drewN w1 (1 + m1) _)
      have hkl : (p.take k).length = k := by rw [List.length_take]; omega
      refine app_num W2.sl hkl (hr2.take k).rd (by omega) (by omega) fun v w3 a3 => ?_
      have W3 := W2.apd W2.hc.blk.lt a3
      have hr3 := hr2.fr (a3.fr.mono (Q := hP hb (.slice RA L rc)) fun b _ e => .inr e)
      obtain ⟨VA, vc, rfl, hvc, hVd, hVb⟩ := W3.sl.read
      have hvl : (rest alg m ++ p.take k).length = L + k := by rw [List.length_append, hkl, hL]
      rw [hvl] at hvc W3
      simp (disch := omega) only [EO, ↓EP, EQ, EM, ↓reduceIte, Int.reduceAdd, Int.reduceEq, Int.reduceLE, Int.reduceLT, Int.reduceMul, Int.reduceNeg, Int.reducePow, Int.reduceSub, Int.reduceToNat, Nat.reduceAdd, Nat.reduceEqDiff, Nat.reduceLT, Nat.reduceLeDiff, Nat.reduceMul, reduceCtorEq, W_join, hvl]
      intro m3
      refine (W3.drewN m3).hc.str fun w4 h4 f4 => ?_
      have W4 := (W3.drewN m3).hb_ hi h4 f4
      have hr4 := (hr3.fr (Fr.drewN w3 m3 _)).fr (f4.mono (Q := hP hb (.slice RA L rc)) fun b _ e => .inl e)
      clear W2 hr2 a3 W3 hr3 h4 f4 W1 hr1
      have hre4 := W4.hc.rest
      simp (disch := omega) only [EO, ↓EP, EQ, EM, ↓reduceIte, Int.reduceAdd, Int.reduceEq, Int.reduceLE, Int.reduceLT, Int.reduceMul, Int.reduceNeg, Int.reducePow, Int.reduceSub, Int.reduceToNat, Nat.reduceAdd, Nat.reduceEqDiff, Nat.reduceLT, Nat.reduceLeDiff, Nat.reduceMul, reduceCtorEq, W_join, hre4]
      intro m4
      have W5 := W4.drewN m4
      have hr5 := hr4.fr (Fr.drewN w4 m4 _)
      by_cases hfull : ((L + k : Nat) : Int) < (blockI alg : Int)
      · rw [if_pos hfull]
        have hkp : k = p.length := by omega
        have hj : M.length / blockI alg = m.length / blockI alg := run_of ha1 ha4 (by omega) (by omega)
        have e1 : run alg M = run alg m := by rw [hrun, run, hj]
        have e2 : rest alg M = rest alg m ++ p.take k := by
          rw [rest, hj, ← hMd, List.drop_append_of_le_length hd1, hkp, List.take_length]; rfl
        rw [← e1, ← e2] at W5
        exact fin _ _ W5
      · rw [if_neg hfull]
        have hLk : L + k = blockI alg := by omega
        have hpart : rest alg m ++ p.take k = part (blockI alg) M (m.length / blockI alg) := by
          rw [part, ← hMd, List.drop_append_of_le_length hd1]
          have : (List.drop (m.length / blockI alg * blockI alg) m).length = L := by simp; omega
          rw [List.take_append, this, List.take_of_length_le (l := List.drop (m.length / blockI alg * blockI alg) m) (by rw [this]; omega), show blockI alg - L = k by omega]; rfl
        rw [hLk] at W5
        rw [hLk]
        refine block_spec W5.hc ha1 ha4 W5.tb W5.sl.rdOf (by rw [hvl, hLk]) _ fun w6 h6 f6 => ?_
        have W6 := (W5.hb_ hi h6 f6).out
        have hr6 := hr5.fr (f6.mono (Q := hP hb (.slice RA L rc)) fun b _ e => .inl e)
        simp (disch := omega) only [EO, ↓EP, EQ, EM, ↓reduceIte, Int.reduceAdd, Int.reduceEq, Int.reduceLE, Int.reduceLT, Int.reduceMul, Int.reduceNeg, Int.reducePow, Int.reduceSub, Int.reduceToNat, Nat.reduceAdd, Nat.reduceEqDiff, Nat.reduceLT, Nat.reduceLeDiff, Nat.reduceMul, reduceCtorEq]
        refine W6.hc.str fun w7 h7 f7 => ?_
        have W7 := W6.hb_ hi h7 f7
        have hr7 := hr6.fr (f7.mono (Q := hP hb (.slice RA L rc)) fun b _ e => .inl e)
        have hqs : (m.length / blockI alg + 1) * blockI alg = m.length / blockI alg * blockI alg + blockI alg := by rw [Nat.add_mul, Nat.one_mul]
        simp (disch := omega) only [EO, ↓EP, EQ, EM, ↓reduceIte, Int.reduceAdd, Int.reduceEq, Int.reduceLE, Int.reduceLT, Int.reduceMul, Int.reduceNeg, Int.reducePow, Int.reduceSub, Int.reduceToNat, Nat.reduceAdd, Nat.reduceEqDiff, Nat.reduceLT, Nat.reduceLeDiff, Nat.reduceMul, reduceCtorEq]
        refine hN _ _ ⟨m.length / blockI alg + 1, subA A c k 1, c - k, .slice none 0 0, ?_, by omega, by omega, ?_, ?_⟩
        · simp (disch := omega) only [EO, ↓EP, EQ, EM, ↓reduceIte, Int.reduceAdd, Int.reduceEq, Int.reduceLE, Int.reduceLT, Int.reduceMul, Int.reduceNeg, Int.reducePow, Int.reduceSub, Int.reduceToNat, Nat.reduceAdd, Nat.reduceEqDiff, Nat.reduceLT, Nat.reduceLeDiff, Nat.reduceMul, reduceCtorEq, hk]
          have e3 : p.length - k = M.length - (m.length / blockI alg + 1) * blockI alg := by omega
          rw [e3]
        · rw [runN_succ, ← hrun, ← hpart]; exact W7
        · have e : M.drop ((m.length / blockI alg + 1) * blockI alg) = p.drop k := by
            rw [← hMd, hqs, show m.length / blockI alg * blockI alg + blockI alg = m.length + k by omega, List.drop_append]
            simp
          rw [e]
          exact hr7.subA c k hpc
  · rintro ρ' w' hf ⟨j, A', c', X, hs1, hj1, hj2, W2, hr2⟩
    have q0 : ρ' 0 = .pointer (some ⟨hb, 0, none⟩) := by rw [hf 0 rfl]; simp only [↓EP, EQ, EM, ↓reduceIte, Int.reduceAdd, Int.reduceEq, Int.reduceLE, Int.reduceLT, Int.reduceMul, Int.reduceNeg, Int.reducePow, Int.reduceSub, Int.reduceToNat, Nat.reduceAdd, Nat.reduceEqDiff, Nat.reduceLT, Nat.reduceLeDiff, Nat.reduceMul, reduceCtorEq]
    have q5 : ρ' 5 = .int .i64 (blockI alg) := by rw [hf 5 rfl]; simp only [↓EP, EQ, EM, ↓reduceIte, Int.reduceAdd, Int.reduceEq, Int.reduceLE, Int.reduceLT, Int.reduceMul, Int.reduceNeg, Int.reducePow, Int.reduceSub, Int.reduceToNat, Nat.reduceAdd, Nat.reduceEqDiff, Nat.reduceLT, Nat.reduceLeDiff, Nat.reduceMul, reduceCtorEq]
    clear hf
    simp only [↓EP, EQ, EM, ↓reduceIte, Int.reduceAdd, Int.reduceEq, Int.reduceLE, Int.reduceLT, Int.reduceMul, Int.reduceNeg, Int.reducePow, Int.reduceSub, Int.reduceToNat, Nat.reduceAdd, Nat.reduceEqDiff, Nat.reduceLT, Nat.reduceLeDiff, Nat.reduceMul, reduceCtorEq]
    refine loop_inv (fun t ρ w' => ∃ (j : Nat) (A' : Option Addr) (c' : Nat), ρ 1 = .slice A' (M.length - j * blockI alg) c' ∧ j * blockI alg ≤ M.length ∧ M.length - j * blockI alg ≤ c' ∧ t = M.length - j * blockI alg ∧ Wr w w' hb (.slice RA L rc) alg (runN alg M j) X M.length X [] ∧ RO .u8 w' A' (M.drop (j * blockI alg)) (hP hb (.slice RA L rc))) _ ⟨j, A', c', hs1, hj1, hj2, rfl, W2, hr2⟩ ?_
    clear hs1 hj1 hj2 W2 hr2 w' A' c' j
    rintro t ρ2 w2 hf ⟨j, A', c', hs1, hj1, hj2, rfl, W2, hr2⟩ N hN
    have r0 : ρ2 0 = .pointer (some ⟨hb, 0, none⟩) := by rw [hf 0 rfl]; exact q0
    have r5 : ρ2 5 = .int .i64 (blockI alg) := by rw [hf 5 rfl]; exact q5
    clear hf
    have hj3 : ((M.length - j * blockI alg : Nat) : Int) = (M.length : Int) - (j * blockI alg : Nat) := by omega
    have hjs : (j + 1) * blockI alg = j * blockI alg + blockI alg := by rw [Nat.add_mul, Nat.one_mul]
    have hdl : (M.drop (j * blockI alg)).length = M.length - j * blockI alg := by simp
    generalize hR : M.length - j * blockI alg = R at *
    by_cases hge : (blockI alg : Int) ≤ (R : Int)
    · simp (disch := omega) only [EO, ↓EP, EQ, EM, ↓reduceIte, Int.reduceAdd, Int.reduceEq, Int.reduceLE, Int.reduceLT, Int.reduceMul, Int.reduceNeg, Int.reducePow, Int.reduceSub, Int.reduceToNat, Nat.reduceAdd, Nat.reduceEqDiff, Nat.reduceLT, Nat.reduceLeDiff, Nat.reduceMul, reduceCtorEq, hs1, r0, r5]
      refine block_spec W2.hc ha1 ha4 W2.tb (p := part (blockI alg) M j) (hr2.take _).rd (by rw [part, List.length_take, hdl]; omega) _ fun w6 h6 f6 => ?_
      have W6 := W2.hb_ hi h6 f6
      have hr6 := hr2.fr (f6.mono (Q := hP hb (.slice RA L rc)) fun b _ e => .inl e)
      simp (disch := omega) only [EO, ↓EP, EQ, EM, ↓reduceIte, Int.reduceAdd, Int.reduceEq, Int.reduceLE, Int.reduceLT, Int.reduceMul, Int.reduceNeg, Int.reducePow, Int.reduceSub, Int.reduceToNat, Nat.reduceAdd, Nat.reduceEqDiff, Nat.reduceLT, Nat.reduceLeDiff, Nat.reduceMul, reduceCtorEq, hs1, r5]
      refine hN (M.length - (j + 1) * blockI alg) _ _ (by omega) ⟨j + 1, subA A' c' (blockI alg) 1, c' - blockI alg, ?_, by omega, by omega, rfl, ?_, ?_⟩
      · simp (disch := omega) only [EO, ↓EP, EQ, EM, ↓reduceIte, Int.reduceAdd, Int.reduceEq, Int.reduceLE, Int.reduceLT, Int.reduceMul, Int.reduceNeg, Int.reducePow, Int.reduceSub, Int.reduceToNat, Nat.reduceAdd, Nat.reduceEqDiff, Nat.reduceLT, Nat.reduceLeDiff, Nat.reduceMul, reduceCtorEq, hs1, r5]
        have e3 : R - blockI alg = M.length - (j + 1) * blockI alg := by omega
        rw [e3]
      · rw [runN_succ]; exact W6
      · have := hr6.subA c' (blockI alg) (by omega)
        rwa [List.drop_drop, show j * blockI alg + blockI alg = (j + 1) * blockI alg by omega] at this
    · have hjM : M.length / blockI alg = j := run_of ha1 ha4 hj1 (by omega)
      have e1 : run alg M = runN alg M j := by rw [run, hjM]
      have e2 : rest alg M = M.drop (j * blockI alg) := by rw [rest, hjM]
      rw [← e1] at W2
      rw [← e2] at hr2 hdl
      clear hN
      by_cases h0 : R = 0
      · subst h0
        simp (disch := omega) only [EO, ↓EP, EQ, EM, ↓reduceIte, Int.reduceAdd, Int.reduceEq, Int.reduceLE, Int.reduceLT, Int.reduceMul, Int.reduceNeg, Int.reducePow, Int.reduceSub, Int.reduceToNat, Nat.reduceAdd, Nat.reduceEqDiff, Nat.reduceLT, Nat.reduceLeDiff, Nat.reduceMul, reduceCtorEq, W_join, hs1, r0, r5]
        refine fin X _ ?_
        rw [List.length_eq_zero_iff.1 hdl]
        exact W2
      · simp (disch := omega) only [EO, ↓EP, EQ, EM, ↓reduceIte, Int.reduceAdd, Int.reduceEq, Int.reduceLE, Int.reduceLT, Int.reduceMul, Int.reduceNeg, Int.reducePow, Int.reduceSub, Int.reduceToNat, Nat.reduceAdd, Nat.reduceEqDiff, Nat.reduceLT, Nat.reduceLeDiff, Nat.reduceMul, reduceCtorEq, W_join, hs1, r0, r5]
        refine al_k (nums .u8 (List.replicate (blockI alg) 0)) (by rw [madeCells_list, nums_replicate]) fun w3 n3 => ?_
        have f3 := n3.fr nob
        have hnsl : Sl .u8 w3 (.slice (some ⟨w2.heap.size, 0, none⟩) 0 (blockI alg)) [] := .inr ⟨w2.heap.size, List.replicate (blockI alg) 0, by simp, by simpa using n3.blk⟩
        have W3 : Wr w w3 hb (.slice RA L rc) alg (run alg M) X M.length (.slice (some ⟨w2.heap.size, 0, none⟩) 0 (blockI alg)) [] :=
          ⟨W2.hc.fr f3 (fun x => x), hnsl, fun b e => by cases e; have z1 := W2.fr.size; have z2 := W2.tb.lt; have z3 := W2.hc.blk.lt; exact ⟨z2, by show w2.heap.size ≠ hb; omega, .inr z1⟩, W2.tb.fr f3 (fun x => x) (fun x => x), W2.fr.trans f3 fun b _ e => e.elim⟩
        have hr3 := hr2.fr (f3.mono (Q := hP hb (.slice RA L rc)) fun b _ e => e.elim)
        simp (disch := omega) only [EO, ↓EP, EQ, EM, ↓reduceIte, Int.reduceAdd, Int.reduceEq, Int.reduceLE, Int.reduceLT, Int.reduceMul, Int.reduceNeg, Int.reducePow, Int.reduceSub, Int.reduceToNat, Nat.reduceAdd, Nat.reduceEqDiff, Nat.reduceLT, Nat.reduceLeDiff, Nat.reduceMul, reduceCtorEq, hs1, r0, r5]
        refine app_num W3.sl hdl hr3.rd (by rw [List.length_nil]; omega) (by omega) fun v w4 a4 => ?_
        have W4 := W3.apd W3.hc.blk.lt a4
        rw [List.nil_append] at W4
        obtain ⟨VA, vc, rfl, hvc, hVd, hVb⟩ := W4.sl.read
        simp (disch := omega) only [EO, ↓EP, EQ, EM, ↓reduceIte, Int.reduceAdd, Int.reduceEq, Int.reduceLE, Int.reduceLT, Int.reduceMul, Int.reduceNeg, Int.reducePow, Int.reduceSub, Int.reduceToNat, Nat.reduceAdd, Nat.reduceEqDiff, Nat.reduceLT, Nat.reduceLeDiff, Nat.reduceMul, reduceCtorEq, hs1, r0, r5]
        refine W4.hc.str fun w5 h5 f5 => ?_
        simp (disch := omega) only [EO, ↓EP, EQ, EM, ↓reduceIte, Int.reduceAdd, Int.reduceEq, Int.reduceLE, Int.reduceLT, Int.reduceMul, Int.reduceNeg, Int.reducePow, Int.reduceSub, Int.reduceToNat, Nat.reduceAdd, Nat.reduceEqDiff, Nat.reduceLT, Nat.reduceLeDiff, Nat.reduceMul, reduceCtorEq, hs1, r0, r5]
        exact fin _ _ (W4.hb_ hi h5 f5)
end Go.Proofs.YtibccpfocbdmaaaDoor.Spec
