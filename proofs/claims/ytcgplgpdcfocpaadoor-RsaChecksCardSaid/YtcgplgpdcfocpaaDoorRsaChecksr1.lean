/- RsaChecks: what is used, in one text. -/
import Derived.Lib.MakeNoZero
import Derived.Laws.Externs
import Derived.Shelf.Strconv.Itoa3
import Derived.Lib.ItoaNum
import Derived.Laws.Strings
import Derived.Laws.RangeString
import Derived.Test.YtcgplgpdcfocpaaDoorRsaChecksr0
set_option linter.unusedVariables false
set_option linter.unusedSimpArgs false
section
set_option linter.unusedVariables false
set_option linter.unusedSimpArgs false
namespace Go.Proofs.YtcgplgpdcfocpaaDoor.Spec
open Go Go.RowKit Go.Proofs Go.Proofs.YtcgplgpdcfocpaaDoor.Eng Go.Proofs.YtcgplgpdcfocpaaDoor.Code
set_option maxRecDepth 100000
attribute [local irreducible] callK S.W opsW scrW dig
def mkAsg : S := .ops [⟨some 9, none, .mv (.tmp 24)⟩]
def mkBody : S := .block 1
    (.seq (.seq (.ops [⟨some 25, none, .ld .slice (.tmp 8)⟩,
      ⟨some 26, none, .len (.tmp 25)⟩,
      ⟨some 27, none, .ld (.int .i64) (.tmp 5)⟩,
      ⟨some 28, none, .bin .geq (.tmp 26) (.tmp 27)⟩])
    (.cond (.tmp 28)
      (.exit 0)
      .skip))
    (.ops [⟨some 29, none, .ld .slice (.tmp 8)⟩,
      ⟨some 30, none, .mv (.tmp 9)⟩,
      ⟨some 31, none, .app 5 1 1 #[(.int .u8 0)] (.tmp 29) (.tmp 30)⟩,
      ⟨none, none, .st 1 (.tmp 8) (.tmp 31)⟩]))
theorem mask_form : ∃ (A0 A1 A2 A3 A4 As Bd : Code), Tryd.f14.body = some (.seq A0 (.seq A1 (.seq A2 (.seq (.seq A3 (.block 0 (.rangeFunc (.tmp 23) #[24] As Bd))) A4)))) ∧
    strS Tryd.prog 36 [] A0 = some (.ops [⟨some 5, none, .box 3 (.tmp 2)⟩, ⟨some 6, none, .mv (.const (.slice none 0 0))⟩, ⟨some 7, none, .mv (.const (.int .i64 0))⟩]) ∧
    strS Tryd.prog 36 [] A1 = some (.seq (.ops [⟨some 10, none, .mv (.tmp 0)⟩,
  ⟨some 11, none, .call 27 [(.tmp 10)]⟩,
  ⟨some 12, none, .bin .eql (.tmp 11) (.const (.int .i64 0))⟩,
  ⟨some 13, none, .mv (.tmp 12)⟩,
  ⟨some 14, some (13, false), .ld (.int .i64) (.tmp 5)⟩,
  ⟨some 15, some (13, false), .bin .lss (.tmp 14) (.const (.int .i64 0))⟩,
  ⟨some 16, none, .pick (.tmp 13) (.const (.bool true)) (.tmp 15)⟩,
  ⟨some 17, none, .mv (.tmp 16)⟩,
  ⟨some 18, some (17, false), .ld (.int .i64) (.tmp 5)⟩,
  ⟨some 19, some (17, false), .bin .gtr (.tmp 18) (.const (.int .i64 2048))⟩,
  ⟨some 20, none, .pick (.tmp 17) (.const (.bool true)) (.tmp 19)⟩])
(.cond (.tmp 20)
  (.seq (.ops [⟨some 6, none, .mv (.const (.slice none 0 0))⟩,
    ⟨some 7, none, .mv (.const (.int .i64 1))⟩])
  .ret)
  .skip)) ∧
    strS Tryd.prog 36 [] A2 = some (.ops [⟨some 8, none, .alloc 31 (.slice none 0 0)⟩]) ∧
    strS Tryd.prog 36 [] A3 = some (.ops [⟨some 21, none, .mv (.tmp 0)⟩, ⟨some 22, none, .mv (.tmp 1)⟩, ⟨some 23, none, .call 28 [(.tmp 21), (.tmp 22)]⟩]) ∧
    strS Tryd.prog 36 [] As = some mkAsg ∧ strS Tryd.prog 36 [] Bd = some mkBody ∧
    strS Tryd.prog 36 [] A4 = some (.seq (.ops [⟨some 32, none, .ld .slice (.tmp 8)⟩,
  ⟨some 33, none, .ld (.int .i64) (.tmp 5)⟩,
  ⟨some 34, none, .ld (.int .i64) (.tmp 5)⟩,
  ⟨some 35, none, .slc 1 (.tmp 32) none (some (.tmp 33)) (some (.tmp 34))⟩,
  ⟨some 6, none, .mv (.tmp 35)⟩,
  ⟨some 7, none, .mv (.const (.int .i64 0))⟩])
.ret) ∧ plainC As = true ∧ plainC Bd = true := by
  exact ⟨_, _, _, _, _, _, _, rfl, by kernel_rfl, by kernel_rfl, by kernel_rfl, by kernel_rfl, by kernel_rfl, by kernel_rfl, by kernel_rfl, by kernel_rfl, by kernel_rfl⟩
theorem fr_put (w : World) (ib : Nat) (o : Obj) : Fr w (w.putObj ib o) (fun b => b = ib) :=
  ⟨⟨rfl, rfl, rfl, by simp [World.putObj], fun k hk => by omega⟩, fun b _ hb => by
    show (w.heap.setIfInBounds ib o)[b]? = w.heap[b]?
    rw [Array.getElem?_setIfInBounds_ne (fun e => hb e.symm)]⟩
theorem put_at {w : World} {ib : Nat} {o o' : Obj} (h : w.heap[ib]? = some o') : (w.putObj ib o).heap[ib]? = some o := by
  show (w.heap.setIfInBounds ib o)[ib]? = some o
  rw [Array.getElem?_setIfInBounds_self_of_lt (Array.getElem?_eq_some_iff.1 h).1]
theorem ob_fr (w : World) (o : Obj) : Fr w (w.alloc o) nob := by
  have hh : (w.alloc o).heap = w.heap.push o := rfl
  refine ⟨⟨rfl, rfl, rfl, ?_, fun k hk => by omega⟩, fun b hb _ => ?_⟩
  · rw [hh, Array.size_push]; omega
  · rw [hh, Array.getElem?_push_lt hb, Array.getElem?_eq_getElem hb]
theorem ob_size (w : World) (o : Obj) : (w.alloc o).heap.size = w.heap.size + 1 := by
  show (w.heap.push o).size = _
  rw [Array.size_push]
theorem ob_at (w : World) (o : Obj) : (w.alloc o).heap[w.heap.size]? = some o := by
  show (w.heap.push o)[w.heap.size]? = some o
  rw [Array.getElem?_push_size]
structure MCore (w0 : World) (alg n : Int) (sv : Value) (W : World) : Prop where
  nb : Blk W w0.heap.size [.int .i64 n]
  ab : Blk W (w0.heap.size + 2) [.int .i64 alg]
  sb : Blk W (w0.heap.size + 3) [sv]
  de : W.heap[w0.heap.size + 4]? = some (.deferred (some []))
  fr : Fr w0 W nob
theorem MCore.step {w0 W W' : World} {alg n : Int} {sv : Value} {P : Nat → Prop} (h : MCore w0 alg n sv W) (f : Fr W W' P) (hP : ∀ x, P x → x = w0.heap.size + 1 ∨ w0.heap.size + 5 ≤ x) : MCore w0 alg n sv W' := by
  have hl := (Array.getElem?_eq_some_iff.1 h.de).1
  refine ⟨h.nb.fr f fun e => ?_, h.ab.fr f fun e => ?_, h.sb.fr f fun e => ?_, ?_, h.fr.trans f fun x hx e => ?_⟩
  · have := hP _ e; omega
  · have := hP _ e; omega
  · have := hP _ e; omega
  · rw [f.block _ hl fun e => by have := hP _ e; omega]; exact h.de
  · have := hP _ e; omega
structure MI (w0 : World) (alg n : Int) (seed : List Int) (sv : Value) (rec : Loop) (i : Nat) (W : World) : Prop where
  co : MCore w0 alg n sv W
  re : W.heap[w0.heap.size + 5]? = some (.loop rec)
  out : ∃ v, Blk W (w0.heap.size + 1) [v] ∧ Sl .u8 W v (maskL alg seed i) ∧ ∀ b, blkOf v = some b → w0.heap.size + 6 ≤ b
  bd : ∀ j, i = j + 1 → ((maskL alg seed j).length : Int) < n
structure MX (w0 : World) (alg n : Int) (seed : List Int) (sv : Value) (rec : Loop) (W : World) : Prop where
  co : MCore w0 alg n sv W
  re : W.heap[w0.heap.size + 5]? = some (.loop { rec with state := .done, pending := some (.exit 0) })
  out : ∃ i v, Blk W (w0.heap.size + 1) [v] ∧ Sl .u8 W v (maskL alg seed i) ∧ (∀ b, blkOf v = some b → w0.heap.size + 6 ≤ b) ∧ n ≤ (maskL alg seed i).length
set_option maxHeartbeats 4000000 in
theorem mask_round {w0 : World} {alg n : Int} {seed : List Int} {sv : Value} {fn : FuncId} {T : Array Value} {As Bd : Code} {m i : Nat} (a1 : 1 ≤ alg) (a4 : alg ≤ 4) (hn : n ≤ 2048)
    (hpa : plainC As = true) (hpb : plainC Bd = true) (hsa : strS Tryd.prog 36 [] As = some mkAsg) (hsb : strS Tryd.prog 36 [] Bd = some mkBody)
    (hT : T.size = 36) (t5 : T.getD 5 undef = .pointer (some ⟨w0.heap.size, 0, none⟩)) (t8 : T.getD 8 undef = .pointer (some ⟨w0.heap.size + 1, 0, none⟩))
    {rec : Loop} (hrec : rec = ⟨.ready, none, fn, T, #[24], As, Bd, w0.heap.size + 4⟩)
    {W W' : World} {A : Option Addr} {c : Nat} (h : MI w0 alg n seed sv rec i W) (g : Gw .u8 W W' (.slice A (sizeI alg).toNat c) (blkM alg seed i)) :
    YldAt m Tryd.prog (w0.heap.size + 5) (.slice A (sizeI alg).toNat c) W' fun e W'' => (e = .returned (.bool true) ∧ MI w0 alg n seed sv rec (i + 1) W'') ∨ (e = .returned (.bool false) ∧ MX w0 alg n seed sv rec W'') := by
  have hlt := (Array.getElem?_eq_some_iff.1 h.re).1
  have re1 : W'.heap[w0.heap.size + 5]? = some (.loop rec) := by rw [g.fr.block _ hlt fun e => e.elim]; exact h.re
  have co1 := h.co.step g.fr fun x e => e.elim
  obtain ⟨v, hbv, hsv, huv⟩ := h.out
  have hbv := hbv.fr g.fr fun e => e.elim
  have hsv := hsv.fr g.fr fun _ _ e => e.elim
  have hzz := mk_size a1 a4
  have hgl := g.sl
  have hup := g.up
  obtain ⟨x, hx⟩ : ∃ x, x = Value.slice A (sizeI alg).toNat c := ⟨_, rfl⟩
  rw [← hx] at hgl hup ⊢
  refine ⟨fn, T.setIfInBounds 24 x, As, Bd, ?_, ?_⟩
  · rw [run_yield (args := #[x]) re1 (by rw [hrec]; rfl)]
    simp [hrec]
  refine round_eng (n := 36) hpa hpb hsa hsb (by simpa using hT) ?_
  obtain ⟨ρ, hρ⟩ : ∃ ρ : Env, ρ = fun t => (T.setIfInBounds 24 x).getD t undef := ⟨_, rfl⟩
  have e5 : ρ 5 = .pointer (some ⟨w0.heap.size, 0, none⟩) := by rw [hρ, ← t5]; simp [Array.getD_eq_getD_getElem?, Array.getElem?_setIfInBounds_ne]
  have e8 : ρ 8 = .pointer (some ⟨w0.heap.size + 1, 0, none⟩) := by rw [hρ, ← t8]; simp [Array.getD_eq_getD_getElem?, Array.getElem?_setIfInBounds_ne]
  have e24 : ρ 24 = x := by rw [hρ]; simp [Array.getD_eq_getD_getElem?, hT]
  rw [← hρ]
  have fb := fr_put W' (w0.heap.size + 5) (.loop { rec with state := .busy })
  have re2 := put_at (o := .loop { rec with state := .busy }) re1
  have co2 := co1.step fb fun x e => by omega
  have hbv2 := hbv.fr fb (by omega)
  have hsv2 := hsv.fr fb fun b e => by have := huv b e; omega
  have hgl2 := hgl.fr fb fun b e => by have := hup b e; omega
  obtain ⟨KK, hKK⟩ : ∃ KK : Exit → Env → World → Prop, KK = fun e ρ w₁ => e = .normal ∧ ∃ r, w₁.heap[w0.heap.size + 5]? = some (.loop r) ∧ r.state = .ready ∧ mkBody.W Tryd.prog (rndK (w0.heap.size + 5) fun e W'' => (e = .returned (.bool true) ∧ MI w0 alg n seed sv rec (i + 1) W'') ∨ (e = .returned (.bool false) ∧ MX w0 alg n seed sv rec W'')) ρ (w₁.putObj (w0.heap.size + 5) (.loop { r with state := .busy })) := ⟨_, rfl⟩
  rw [← hKK]
  suffices hs : ∀ ρ' : Env, ρ' 5 = ρ 5 → ρ' 8 = ρ 8 → ρ' 9 = x → KK .normal ρ' W' by
    simp (disch := omega) only [wu64, wu32, wu8, fdiv_nn, EO, ↓EP, EQ, EM, ↓reduceIte, Int.reduceAdd, Int.reduceEq, Int.reduceLE, Int.reduceLT, Int.reduceMul, Int.reduceNeg, Int.reducePow, Int.reduceSub, Int.reduceToNat, Nat.reduceAdd, Nat.reduceEqDiff, Nat.reduceLT, Nat.reduceLeDiff, Nat.reduceMul, reduceCtorEq, mkAsg, e24]
    refine hs _ ?_ ?_ ?_
    · simp (disch := omega) only [wu64, wu32, wu8, fdiv_nn, EO, ↓EP, EQ, EM, ↓reduceIte, Int.reduceAdd, Int.reduceEq, Int.reduceLE, Int.reduceLT, Int.reduceMul, Int.reduceNeg, Int.reducePow, Int.reduceSub, Int.reduceToNat, Nat.reduceAdd, Nat.reduceEqDiff, Nat.reduceLT, Nat.reduceLeDiff, Nat.reduceMul, reduceCtorEq]
    · simp (disch := omega) only [wu64, wu32, wu8, fdiv_nn, EO, ↓EP, EQ, EM, ↓reduceIte, Int.reduceAdd, Int.reduceEq, Int.reduceLE, Int.reduceLT, Int.reduceMul, Int.reduceNeg, Int.reducePow, Int.reduceSub, Int.reduceToNat, Nat.reduceAdd, Nat.reduceEqDiff, Nat.reduceLT, Nat.reduceLeDiff, Nat.reduceMul, reduceCtorEq]
    · simp (disch := omega) only [wu64, wu32, wu8, fdiv_nn, EO, ↓EP, EQ, EM, ↓reduceIte, Int.reduceAdd, Int.reduceEq, Int.reduceLE, Int.reduceLT, Int.reduceMul, Int.reduceNeg, Int.reducePow, Int.reduceSub, Int.reduceToNat, Nat.reduceAdd, Nat.reduceEqDiff, Nat.reduceLT, Nat.reduceLeDiff, Nat.reduceMul, reduceCtorEq]
  intro ρ' q5 q8 q9
  rw [hKK]
  refine ⟨rfl, rec, re1, by rw [hrec], ?_⟩
  rw [e5] at q5
  rw [e8] at q8
  generalize hW2 : W'.putObj (w0.heap.size + 5) (.loop { rec with state := .busy }) = W2 at *
  have k5 : W2.cell? ⟨w0.heap.size, 0, none⟩ = some (.int .i64 n) := co2.nb.has 0 _ rfl
  have k8 : W2.cell? ⟨w0.heap.size + 1, 0, none⟩ = some v := hbv2.has 0 _ rfl
  obtain ⟨B, d, rfl, hd, hrB, _⟩ := hsv2.read
  obtain ⟨A', c', hx', _, hr', _⟩ := hgl2.read
  by_cases hq : n ≤ ((maskL alg seed i).length : Int)
  · simp (disch := omega) only [wu64, wu32, wu8, fdiv_nn, EO, ↓EP, EQ, EM, ↓reduceIte, Int.reduceAdd, Int.reduceEq, Int.reduceLE, Int.reduceLT, Int.reduceMul, Int.reduceNeg, Int.reducePow, Int.reduceSub, Int.reduceToNat, Nat.reduceAdd, Nat.reduceEqDiff, Nat.reduceLT, Nat.reduceLeDiff, Nat.reduceMul, reduceCtorEq, mkBody, q5, q8, q9, k5, k8, hq]
    have er : ({ { rec with state := .busy } with state := .done, pending := some (.exit 0) } : Loop) = { rec with state := .done, pending := some (.exit 0) } := rfl
    have f3 := fr_put W2 (w0.heap.size + 5) (.loop { rec with state := .done, pending := some (.exit 0) })
    refine ⟨_, re2, .inr ⟨rfl, ?_⟩⟩
    exact ⟨co2.step f3 fun b e => by omega, put_at re2, i, _, hbv2.fr f3 (by omega), hsv2.fr f3 fun b e => (by have := huv b e; omega), huv, hq⟩
  · simp (disch := omega) only [wu64, wu32, wu8, fdiv_nn, EO, ↓EP, EQ, EM, ↓reduceIte, Int.reduceAdd, Int.reduceEq, Int.reduceLE, Int.reduceLT, Int.reduceMul, Int.reduceNeg, Int.reducePow, Int.reduceSub, Int.reduceToNat, Nat.reduceAdd, Nat.reduceEqDiff, Nat.reduceLT, Nat.reduceLeDiff, Nat.reduceMul, reduceCtorEq, mkBody, q5, q8, q9, k5, k8, hq]
    subst hx'
    have hl : ((maskL alg seed i).length : Int) < n := by omega
    have hln := dig_len a1 a4 (seed ++ be4 i)
    have hln : (blkM alg seed i).length = (sizeI alg).toNat := hln
    refine app_num hsv2 rfl hr' (by omega) (by decide) fun v' w3 ap => ?_
    have hbv3 := hbv2.fr ap.fr fun e => by have := huv _ e; omega
    have re3 := ap.fr.block _ (Array.getElem?_eq_some_iff.1 re2).1 fun e => by have := huv _ e; omega
    rw [re2] at re3
    have co3 := co2.step ap.fr fun b e => by have := huv _ e; omega
    have hz3 := ap.fr.size
    have hW2s : w0.heap.size + 5 < W2.heap.size := (Array.getElem?_eq_some_iff.1 re2).1
    have huv3 : ∀ b, blkOf v' = some b → w0.heap.size + 6 ≤ b := fun b e => by
      rcases ap.where_ with h | h
      · exact huv b (h ▸ e)
      · have := h b e; omega
    have hv1 : v'.oneCell' = true := by
      obtain ⟨_, _, e, _⟩ := ap.sl.read
      rw [e]; rfl
    simp (disch := omega) only [wu64, wu32, wu8, fdiv_nn, EO, ↓EP, EQ, EM, ↓reduceIte, Int.reduceAdd, Int.reduceEq, Int.reduceLE, Int.reduceLT, Int.reduceMul, Int.reduceNeg, Int.reducePow, Int.reduceSub, Int.reduceToNat, Nat.reduceAdd, Nat.reduceEqDiff, Nat.reduceLT, Nat.reduceLeDiff, Nat.reduceMul, reduceCtorEq, q8]
    refine st_one hbv3 (by simp) hv1 fun w4 p4 => ?_
    simp (disch := omega) only [wu64, wu32, wu8, fdiv_nn, EO, ↓EP, EQ, EM, ↓reduceIte, Int.reduceAdd, Int.reduceEq, Int.reduceLE, Int.reduceLT, Int.reduceMul, Int.reduceNeg, Int.reducePow, Int.reduceSub, Int.reduceToNat, Nat.reduceAdd, Nat.reduceEqDiff, Nat.reduceLT, Nat.reduceLeDiff, Nat.reduceMul, reduceCtorEq]
    have re4 : w4.heap[w0.heap.size + 5]? = _ := p4.fr.block _ (Array.getElem?_eq_some_iff.1 re3).1 (by omega)
    rw [re3] at re4
    have co4 := co3.step p4.fr fun b e => by omega
    have f5 := fr_put w4 (w0.heap.size + 5) (.loop rec)
    have er : ({ { rec with state := .busy } with state := .ready, pending := none } : Loop) = rec := by rw [hrec]
    refine ⟨_, re4, .inl ⟨rfl, ?_⟩⟩
    rw [er]
    refine ⟨co4.step f5 fun b e => by omega, put_at re4, ⟨v', ?_, ?_, huv3⟩, fun j e => ?_⟩
    · exact p4.blk.fr f5 (by omega)
    · rw [maskL_succ]
      exact (ap.sl.fr p4.fr fun b e => by have := huv3 b e; omega).fr f5 fun b e => by have := huv3 b e; omega
    · obtain rfl : j = i := by omega
      exact hl
end Go.Proofs.YtcgplgpdcfocpaaDoor.Spec
end
section
set_option linter.unusedVariables false
set_option linter.unusedSimpArgs false
namespace Go.Proofs.YtcgplgpdcfocpaaDoor.Spec
open Go Go.RowKit Go.Proofs Go.Proofs.YtcgplgpdcfocpaaDoor.Eng Go.Proofs.YtcgplgpdcfocpaaDoor.Code
set_option maxRecDepth 100000
attribute [local irreducible] callK S.W opsW scrW dig
theorem sizeI_zero {alg : Int} : sizeI alg = 0 ↔ (alg < 1 ∨ 4 < alg) := by
  constructor
  · intro h
    by_cases a1 : 1 ≤ alg
    · by_cases a4 : alg ≤ 4
      · have := mk_size a1 a4; omega
      · omega
    · omega
  · intro h
    unfold sizeI
    repeat' split
    all_goals omega
set_option maxHeartbeats 4000000 in
theorem mask_k {alg n : Int} {seed : List Int} {A : Option Addr} {c : Nat} {w : World} (hT : Tb w) (hc : seed.length ≤ c) (hr : Rd w A (nums .u8 seed)) (hseed : seed.length ≤ 16777000) {K : Value → World → Prop}
    (hK : ∀ v w', Vw .u8 w' v (maskR alg seed n).1 → (∀ b, blkOf v = some b → w.heap.size ≤ b) → Fr w w' nob → K (.tuple #[v, .int .i64 (maskR alg seed n).2]) w') : callK Tryd.prog 14 [.int .i64 alg, .slice A seed.length c, .int .i64 n] w K := by
  obtain ⟨A0, A1, A2, A3, A4, As, Bd, hb, h0, h1, h2, h3, hsa, hsb, h4, hpa, hpb⟩ := mask_form
  refine call_marks (m := 2) Tryd.func14 hb ?_
  refine wpIn_seq ?_
  refine eng_wide h0 (dfs := []) (by simp) rfl (K := fun e ρ w' => e = .normal ∧ New w w' [.int .i64 n] ∧ ρ 0 = .int .i64 alg ∧ ρ 1 = .slice A seed.length c ∧ ρ 5 = .pointer (some ⟨w.heap.size, 0, none⟩)) ?_ ?_
  · rw [env_args]
    simp (disch := omega) only [wu64, wu32, wu8, fdiv_nn, EO, ↓EP, EQ, EM, ↓reduceIte, Int.reduceAdd, Int.reduceEq, Int.reduceLE, Int.reduceLT, Int.reduceMul, Int.reduceNeg, Int.reducePow, Int.reduceSub, Int.reduceToNat, Nat.reduceAdd, Nat.reduceEqDiff, Nat.reduceLT, Nat.reduceLeDiff, Nat.reduceMul, reduceCtorEq]
    refine al_k [.int .i64 n] rfl fun w1 n1 => ?_
    simp (disch := omega) only [wu64, wu32, wu8, fdiv_nn, EO, ↓EP, EQ, EM, ↓reduceIte, Int.reduceAdd, Int.reduceEq, Int.reduceLE, Int.reduceLT, Int.reduceMul, Int.reduceNeg, Int.reducePow, Int.reduceSub, Int.reduceToNat, Nat.reduceAdd, Nat.reduceEqDiff, Nat.reduceLT, Nat.reduceLeDiff, Nat.reduceMul, reduceCtorEq]
    exact n1
  rintro e a w1 ⟨hsz, hdf, rfl, n1, e0, e1, e5⟩
  show (Go.Code.seq _ _).wpIn _ _ _ _ _ _
  have f1 := n1.fr nob
  have k5 : w1.cell? ⟨w.heap.size, 0, none⟩ = some (.int .i64 n) := n1.blk.has 0 _ rfl
  refine wpIn_seq ?_
  refine eng_wide h1 (dfs := []) hsz hdf (K := fun e ρ w' => w' = w1 ∧ ((e = .normal ∧ ¬ (sizeI alg = 0 ∨ n < 0 ∨ 2048 < n) ∧ ρ 0 = .int .i64 alg ∧ ρ 1 = .slice A seed.length c ∧ ρ 5 = .pointer (some ⟨w.heap.size, 0, none⟩)) ∨ (e = .ret ∧ (sizeI alg = 0 ∨ n < 0 ∨ 2048 < n) ∧ ρ 6 = .slice none 0 0 ∧ ρ 7 = .int .i64 1))) ?_ ?_
  · simp (disch := omega) only [wu64, wu32, wu8, fdiv_nn, EO, ↓EP, EQ, EM, ↓reduceIte, Int.reduceAdd, Int.reduceEq, Int.reduceLE, Int.reduceLT, Int.reduceMul, Int.reduceNeg, Int.reducePow, Int.reduceSub, Int.reduceToNat, Nat.reduceAdd, Nat.reduceEqDiff, Nat.reduceLT, Nat.reduceLeDiff, Nat.reduceMul, reduceCtorEq, e0, e1, e5, k5]
    refine size_spec alg _ _ ?_
    by_cases c0 : sizeI alg = 0
    · simp (disch := omega) only [wu64, wu32, wu8, fdiv_nn, EO, ↓EP, EQ, EM, ↓reduceIte, Int.reduceAdd, Int.reduceEq, Int.reduceLE, Int.reduceLT, Int.reduceMul, Int.reduceNeg, Int.reducePow, Int.reduceSub, Int.reduceToNat, Nat.reduceAdd, Nat.reduceEqDiff, Nat.reduceLT, Nat.reduceLeDiff, Nat.reduceMul, reduceCtorEq, e0, e1, e5, k5, c0]
      simp
    · by_cases c1 : n < 0
      · simp (disch := omega) only [wu64, wu32, wu8, fdiv_nn, EO, ↓EP, EQ, EM, ↓reduceIte, Int.reduceAdd, Int.reduceEq, Int.reduceLE, Int.reduceLT, Int.reduceMul, Int.reduceNeg, Int.reducePow, Int.reduceSub, Int.reduceToNat, Nat.reduceAdd, Nat.reduceEqDiff, Nat.reduceLT, Nat.reduceLeDiff, Nat.reduceMul, reduceCtorEq, e0, e1, e5, k5, c0, c1]
        simp
      · by_cases c2 : 2048 < n
        · simp (disch := omega) only [wu64, wu32, wu8, fdiv_nn, EO, ↓EP, EQ, EM, ↓reduceIte, Int.reduceAdd, Int.reduceEq, Int.reduceLE, Int.reduceLT, Int.reduceMul, Int.reduceNeg, Int.reducePow, Int.reduceSub, Int.reduceToNat, Nat.reduceAdd, Nat.reduceEqDiff, Nat.reduceLT, Nat.reduceLeDiff, Nat.reduceMul, reduceCtorEq, e0, e1, e5, k5, c0, c1, c2]
          simp
        · simp (disch := omega) only [wu64, wu32, wu8, fdiv_nn, EO, ↓EP, EQ, EM, ↓reduceIte, Int.reduceAdd, Int.reduceEq, Int.reduceLE, Int.reduceLT, Int.reduceMul, Int.reduceNeg, Int.reducePow, Int.reduceSub, Int.reduceToNat, Nat.reduceAdd, Nat.reduceEqDiff, Nat.reduceLT, Nat.reduceLeDiff, Nat.reduceMul, reduceCtorEq, e0, e1, e5, k5, c0, c1, c2]
          simp
  rintro e a w' ⟨hsz, hdf, rfl, ⟨rfl, hbad, e0, e1, e5⟩ | ⟨rfl, hbad, e6, e7⟩⟩
  rotate_left
  · show LeavesInM _ _ _ _ _ _ a.defers _ _
    rw [hdf]
    have hR : maskR alg seed n = ([], 1) := if_pos hbad
    obtain ⟨u, hu, e⟩ := results_run (P := Tryd.prog) (fn := Tryd.f14) (a := a) (w := w') (l := [.inl 6, .inl 7]) (by rfl) (K := fun u => u = .tuple #[.slice none 0 0, .int .i64 1]) (by show packV [envOf a 6, envOf a 7] = _; rw [e6, e7]; rfl)
    refine ⟨u, hu, u, rfl, ?_⟩
    rw [e]
    have := hK (.slice none 0 0) w' (by rw [hR]; exact Vw.nil _ _) (fun b e => by cases e) f1
    rw [hR] at this
    exact this
  obtain ⟨g0, gn, gx⟩ : sizeI alg ≠ 0 ∧ 0 ≤ n ∧ n ≤ 2048 := by omega
  have ha : ¬ (alg < 1 ∨ 4 < alg) := fun h => g0 (sizeI_zero.2 h)
  have a1 : 1 ≤ alg := by omega
  have a4 : alg ≤ 4 := by omega
  have hzz := mk_size a1 a4
  have hR : maskR alg seed n = ((maskL alg seed n.toNat).take n.toNat, 0) := if_neg hbad
  rw [hR] at hK
  show (Go.Code.seq _ _).wpIn _ _ _ _ _ _
  refine wpIn_seq ?_
  refine eng_wide h2 (dfs := []) hsz hdf (K := fun e ρ w'' => e = .normal ∧ New w' w'' [.slice none 0 0] ∧ ρ 0 = .int .i64 alg ∧ ρ 1 = .slice A seed.length c ∧ ρ 5 = .pointer (some ⟨w.heap.size, 0, none⟩) ∧ ρ 8 = .pointer (some ⟨w'.heap.size, 0, none⟩)) ?_ ?_
  · simp (disch := omega) only [wu64, wu32, wu8, fdiv_nn, EO, ↓EP, EQ, EM, ↓reduceIte, Int.reduceAdd, Int.reduceEq, Int.reduceLE, Int.reduceLT, Int.reduceMul, Int.reduceNeg, Int.reducePow, Int.reduceSub, Int.reduceToNat, Nat.reduceAdd, Nat.reduceEqDiff, Nat.reduceLT, Nat.reduceLeDiff, Nat.reduceMul, reduceCtorEq, e0, e1, e5]
    refine al_k [.slice none 0 0] rfl fun w2 n2 => ?_
    simp (disch := omega) only [wu64, wu32, wu8, fdiv_nn, EO, ↓EP, EQ, EM, ↓reduceIte, Int.reduceAdd, Int.reduceEq, Int.reduceLE, Int.reduceLT, Int.reduceMul, Int.reduceNeg, Int.reducePow, Int.reduceSub, Int.reduceToNat, Nat.reduceAdd, Nat.reduceEqDiff, Nat.reduceLT, Nat.reduceLeDiff, Nat.reduceMul, reduceCtorEq, e0, e1, e5]
    exact n2
  clear hsz hdf e0 e1 e5
  rintro e a2 w2 ⟨hsz, hdf, rfl, n2, e0, e1, e5, e8⟩
  rw [n1.size] at e8
  show (Go.Code.seq _ _).wpIn _ _ _ _ _ _
  refine wpIn_seq ?_
  refine wpIn_seq ?_
  refine eng_wide h3 (dfs := []) hsz hdf (K := fun e ρ w4 => e = .normal ∧ (∃ w3, New w2 w3 [.int .i64 alg] ∧ New w3 w4 [.slice A seed.length c]) ∧ ρ 23 = .func (.func 50) #[] #[.pointer (some ⟨w2.heap.size, 0, none⟩), .pointer (some ⟨w2.heap.size + 1, 0, none⟩)] ∧ ρ 5 = .pointer (some ⟨w.heap.size, 0, none⟩) ∧ ρ 8 = .pointer (some ⟨w.heap.size + 1, 0, none⟩)) ?_ ?_
  · simp (disch := omega) only [wu64, wu32, wu8, fdiv_nn, EO, ↓EP, EQ, EM, ↓reduceIte, Int.reduceAdd, Int.reduceEq, Int.reduceLE, Int.reduceLT, Int.reduceMul, Int.reduceNeg, Int.reducePow, Int.reduceSub, Int.reduceToNat, Nat.reduceAdd, Nat.reduceEqDiff, Nat.reduceLT, Nat.reduceLeDiff, Nat.reduceMul, reduceCtorEq, e0, e1, e5, e8]
    refine blocks_k fun w3 w4 n3 n4 => ?_
    simp (disch := omega) only [wu64, wu32, wu8, fdiv_nn, EO, ↓EP, EQ, EM, ↓reduceIte, Int.reduceAdd, Int.reduceEq, Int.reduceLE, Int.reduceLT, Int.reduceMul, Int.reduceNeg, Int.reducePow, Int.reduceSub, Int.reduceToNat, Nat.reduceAdd, Nat.reduceEqDiff, Nat.reduceLT, Nat.reduceLeDiff, Nat.reduceMul, reduceCtorEq, e0, e1, e5, e8]
    exact ⟨w3, n3, n4⟩
  clear hsz hdf e0 e1 e5 e8
  rintro e a3 w4 ⟨hsz, hdf, rfl, ⟨w3, n3, n4⟩, e23, e5, e8⟩
  have s1 := n1.size
  have s2 := n2.size
  have s3 := n3.size
  have s4 := n4.size
  rw [show w2.heap.size = w.heap.size + 2 by omega] at e23
  show (Go.Code.block 0 _).wpIn _ _ _ _ _ _
  refine wpIn_block ?_
  refine range_eng (by rw [eval_env]; exact e23) (fun args w => call_run Tryd.func50 (by kernel_rfl) (by kernel_rfl) args w) fun fn => ?_
  obtain ⟨rec, hrec⟩ : ∃ rec, rec = recOf w4 fn a3.tmps #[24] As Bd := ⟨_, rfl⟩
  rw [← hrec]
  have hs4 : w4.heap.size = w.heap.size + 4 := by omega
  obtain ⟨W, hW⟩ : ∃ W, W = (w4.alloc (.deferred (some []))).alloc (.loop rec) := ⟨_, rfl⟩
  have f4 : Fr w4 (w4.alloc (.deferred (some []))) nob := ob_fr _ _
  have f5 : Fr (w4.alloc (.deferred (some []))) W nob := by rw [hW]; exact ob_fr _ _
  have r5 : W.heap[w.heap.size + 5]? = some (.loop rec) := by
    have := ob_at (w4.alloc (.deferred (some []))) (.loop rec)
    rw [ob_size, hs4, ← hW] at this
    exact this
  have r4 : W.heap[w.heap.size + 4]? = some (.deferred (some [])) := by
    have h := ob_at w4 (.deferred (some []))
    rw [← f5.block _ (by rw [ob_size]; omega) (fun e => e), hs4] at h
    exact h
  have fw : Fr w4 W nob := f4.nb f5
  have ff : Fr w W nob := (((f1.nb (n2.fr nob)).nb (n3.fr nob)).nb (n4.fr nob)).nb fw
  have bo : Blk W (w.heap.size + 1) [.slice none 0 0] := by
    have := n2.blk
    rw [s1] at this
    exact ((this.nb (n3.fr nob)).nb (n4.fr nob)).nb fw
  have bn : Blk W w.heap.size [.int .i64 n] := (((n1.blk.nb (n2.fr nob)).nb (n3.fr nob)).nb (n4.fr nob)).nb fw
  have ba : Blk W (w.heap.size + 2) [.int .i64 alg] := by
    have := n3.blk
    rw [show w2.heap.size = w.heap.size + 2 by omega] at this
    exact (this.nb (n4.fr nob)).nb fw
  have bs : Blk W (w.heap.size + 3) [.slice A seed.length c] := by
    have := n4.blk
    rw [show w3.heap.size = w.heap.size + 3 by omega] at this
    exact this.nb fw
  have hI0 : MI w alg n seed (.slice A seed.length c) rec 0 W := ⟨⟨bn, ba, bs, r4, ff⟩, r5, ⟨_, bo, Sl.nil _ _, fun b e => by cases e⟩, fun j e => by omega⟩
  rw [← hW, hs4]
  have hrec' : rec = ⟨.ready, none, fn, a3.tmps, #[24], As, Bd, w.heap.size + 4⟩ := by rw [hrec, ← hs4]; rfl
  have hit := blk_iter (m := 0) (N := 2050) (l := w.heap.size + 5) (ba := w.heap.size + 2) (bs := w.heap.size + 3) (I := fun i W => MI w alg n seed (.slice A seed.length c) rec i W) (Ix := fun W => MX w alg n seed (.slice A seed.length c) rec W) a1 a4 hseed (by decide)
    (fun i W h => by
      rcases i with _ | j
      · omega
      · have := h.bd j rfl
        rw [maskL_len a1 a4] at this
        have : j ≤ j * (sizeI alg).toNat := Nat.le_mul_of_pos_right _ (by omega)
        omega)
    (fun i W h => ⟨h.co.ab.has 0 _ rfl, ⟨A, c, h.co.sb.has 0 _ rfl, hc, hr.nb h.co.fr⟩, hT.fr h.co.fr (fun x => x) (fun x => x)⟩)
    (fun i W A' c' W' h g => mask_round a1 a4 gx hpa hpb hsa hsb hsz e5 e8 hrec' h g) hI0
  refine hit.mono ?_
  rintro e W6 ⟨hv, hx⟩
  refine ⟨hv, _, hx.re, (fun h => by cases h), ?_⟩
  show (Go.Code.exit 0).wpIn _ _ _ _ _ _
  refine wpIn_exit ?_
  show A4.wpIn _ _ _ _ _ _
  have f7 := fr_put W6 (w.heap.size + 5) (.loop { { rec with state := .done, pending := some (.exit 0) } with state := .exhausted })
  generalize W6.putObj (w.heap.size + 5) _ = W7 at f7
  obtain ⟨i, v, hbv, hsv, huv, hlen⟩ := hx.out
  have co7 := hx.co.step f7 fun b e => by omega
  have hbv7 := hbv.fr f7 (by omega)
  have hsv7 := hsv.fr f7 fun b e => by have := huv b e; omega
  obtain ⟨B, d, rfl, hd, hrB, _⟩ := hsv7.read
  have k5 : W7.cell? ⟨w.heap.size, 0, none⟩ = some (.int .i64 n) := co7.nb.has 0 _ rfl
  have k8 : W7.cell? ⟨w.heap.size + 1, 0, none⟩ = some _ := hbv7.has 0 _ rfl
  refine eng_wide h4 (dfs := [{ target := .collected (w.heap.size + 4), args := #[] }]) (by exact hsz) (by show _ :: a3.defers = _; rw [hdf]) (K := fun e ρ w'' => e = .ret ∧ w'' = W7 ∧ ∃ A' c', ρ 6 = .slice A' n.toNat c' ∧ ρ 7 = .int .i64 0 ∧ n.toNat ≤ c' ∧ Rd W7 A' (nums .u8 ((maskL alg seed n.toNat).take n.toNat)) ∧ ∀ b, blkOf (.slice A' n.toNat c') = some b → w.heap.size + 6 ≤ b) ?_ ?_
  · have eo : envOf { tmps := a3.tmps, defers := { target := Target.collected (w.heap.size + 4), args := #[] } :: a3.defers } = envOf a3 := rfl
    rw [eo]
    simp (disch := omega) only [wu64, wu32, wu8, fdiv_nn, EO, ↓EP, EQ, EM, ↓reduceIte, Int.reduceAdd, Int.reduceEq, Int.reduceLE, Int.reduceLT, Int.reduceMul, Int.reduceNeg, Int.reducePow, Int.reduceSub, Int.reduceToNat, Nat.reduceAdd, Nat.reduceEqDiff, Nat.reduceLT, Nat.reduceLeDiff, Nat.reduceMul, reduceCtorEq, e5, e8, k5, k8]
    rw [i_slc_hm]
    have hnd : n ≤ (d : Int) := by omega
    simp (disch := omega) only [wu64, wu32, wu8, fdiv_nn, EO, ↓EP, EQ, EM, ↓reduceIte, Int.reduceAdd, Int.reduceEq, Int.reduceLE, Int.reduceLT, Int.reduceMul, Int.reduceNeg, Int.reducePow, Int.reduceSub, Int.reduceToNat, Nat.reduceAdd, Nat.reduceEqDiff, Nat.reduceLT, Nat.reduceLeDiff, Nat.reduceMul, reduceCtorEq]
    refine ⟨B, n.toNat, rfl, Nat.le_refl _, ?_, fun b e => huv b ?_⟩
    · rw [← maskL_take a1 a4 seed (by omega : n.toNat ≤ (maskL alg seed i).length)]
      exact hrB.take _
    · cases B with
      | none => cases e
      | some p => exact e
  rintro e a W8 ⟨_, hdf, rfl, rfl, A', c', e6, e7, hc', hr', huv'⟩
  show LeavesInM _ _ _ _ _ _ a.defers _ _
  rw [hdf]
  refine ⟨by simp, .inl ⟨_, _, rfl, run_takeDeferred co7.de, ?_⟩⟩
  have f9 := fr_put W8 (w.heap.size + 4) (.deferred none)
  generalize W8.putObj (w.heap.size + 4) (.deferred none) = W9 at f9
  obtain ⟨u, hu, e⟩ := results_run (P := Tryd.prog) (fn := Tryd.f14) (a := a) (w := W9) (l := [.inl 6, .inl 7]) (by rfl) (K := fun u => u = .tuple #[.slice A' n.toNat c', .int .i64 0]) (by show packV [envOf a 6, envOf a 7] = _; rw [e6, e7]; rfl)
  refine ⟨u, hu, u, rfl, ?_⟩
  rw [e]
  have hln : ((maskL alg seed n.toNat).take n.toNat).length = n.toNat := by
    rw [List.length_take, maskL_len a1 a4]
    have : n.toNat ≤ n.toNat * (sizeI alg).toNat := Nat.le_mul_of_pos_right _ (by omega)
    omega
  refine hK _ W9 (Vw.of hln hc' (hr'.fr f9 (.inr fun p e x => ?_))) (fun b e => by have := huv' b e; omega) (co7.fr.trans f9 fun x hx e => by omega)
  subst e
  have := huv' _ rfl
  omega
end Go.Proofs.YtcgplgpdcfocpaaDoor.Spec
end
section
set_option linter.unusedVariables false
set_option linter.unusedSimpArgs false
namespace Go.Proofs.YtcgplgpdcfocpaaDoor.Spec
open Go Go.RowKit Go.Proofs Go.Proofs.YtcgplgpdcfocpaaDoor.Eng Go.Proofs.YtcgplgpdcfocpaaDoor.Code
set_option maxRecDepth 100000
attribute [local irreducible] callK S.W opsW scrW
def dgs : Nat → Nat → List Int
  | 0, _ => []
  | n + 1, t => ((t % 256 : Nat) : Int) :: dgs n (t / 256)
theorem dgs_len (n t : Nat) : (dgs n t).length = n := by
  induction n generalizing t with
  | zero => rfl
  | succ n ih => simp [dgs, ih]
theorem digits_dgs : ∀ (n t : Nat) (acc : Array Value), (Extern.BytealgMakeNoZero.digits n t acc).toList = acc.toList ++ nums .u8 (dgs n t)
  | 0, _, acc => by simp [Extern.BytealgMakeNoZero.digits, dgs, nums]
  | n + 1, t, acc => by
    rw [Extern.BytealgMakeNoZero.digits, digits_dgs n]
    simp [dgs, nums]
theorem run_mnz {P : Program} (w : World) (ps : Array TypeId) (t e : TypeId) (ht : P.underlying t = some (.slice e)) (n : Nat) (hn : n ≤ 281474976710656) :
    ∃ (l : List Int) (cs : Array Value), (Extern.BytealgMakeNoZero.makeNoZero ps #[t] #[.int .i64 n]).run P w = .ok (.slice (some ⟨w.heap.size, 0, none⟩) n l.length) (w.drew.drew.alloc (.cells cs e)) ∧ n ≤ l.length ∧ cs.toList = nums .u8 l := by
  have hdef : Extern.BytealgMakeNoZero.makeNoZero ps #[t] #[.int .i64 n] =
      (do
        let .slice elem ← underlying t | stuck "bytealg.MakeNoZero: slice type expected"
        if (n : Int) < 0 || (n : Int) > 2 ^ 48 then runtimePanic (.error "makeslice: len out of range")
        let cap ← choose (.appendCap (n : Int).toNat 0 elem)
        askRoom cap
        let bytes ← choose (.extern "internal/bytealg.MakeNoZero.bytes" 0)
        let a ← newRow elem (Extern.BytealgMakeNoZero.digits cap bytes #[])
        pure (.slice (some a) (n : Int).toNat cap)) := rfl
  refine ⟨dgs (grownCap w n 0 e) ((Question.extern "internal/bytealg.MakeNoZero.bytes" 0).cut (w.tape (w.drawn + 1) (.extern "internal/bytealg.MakeNoZero.bytes" 0))), Extern.BytealgMakeNoZero.digits (grownCap w n 0 e) ((Question.extern "internal/bytealg.MakeNoZero.bytes" 0).cut (w.tape (w.drawn + 1) (.extern "internal/bytealg.MakeNoZero.bytes" 0))) #[], ?_, ?_, ?_⟩
  · rw [hdef, dgs_len]
    have h1 : ¬ (n : Int) < 0 := by omega
    have h2 : ¬ (281474976710656 : Int) < (n : Int) := by omega
    simp [run_underlying ht, h1, h2, Question.forced, newRow, grownCap]
  · rw [dgs_len]
    simpa using grownCap_ge w n 0 e
  · rw [digits_dgs]; simp
theorem mnz_k {w : World} {n : Nat} {ρ : Env} {y : Operand} {ats : Array TypeId} {K : Value → World → Prop} (hn : n ≤ 281474976710656) (hy : ev ρ y = .int .i64 n)
    (hK : ∀ (l : List Int) w', n ≤ l.length → New w w' (nums .u8 l) → K (.slice (some ⟨w.heap.size, 0, none⟩) n l.length) w') : rawT Tryd.prog (.call { callee := .value (.func 60), args := #[y], argTypes := ats }) ρ w K .mk := by
  intro o ho
  obtain ⟨d, op, ty, pos, af, gd⟩ := o
  subst ho
  obtain ⟨l, cs, hr, hl, hcs⟩ := run_mnz (P := Tryd.prog) w Tryd.f60.params 31 5 Tryd.underlying31 n hn
  have he := run_callFunc_extern (P := Tryd.prog) (e := Extern.BytealgMakeNoZero.makeNoZero Tryd.f60.params #[31]) Tryd.func60 (by kernel_rfl) (by kernel_rfl) (by kernel_rfl) (by kernel_rfl) #[.int .i64 n] w
  rw [hr] at he
  have hrun : (execOp (ev ρ) ⟨d, .call { callee := .value (.func 60), args := #[y], argTypes := ats }, ty, pos, af, gd⟩).run Tryd.prog w = .ok (.value (.slice (some ⟨w.heap.size, 0, none⟩) n l.length)) (w.drew.drew.alloc (.cells cs 5)) := by
    simp only [Result.andThen_ok] at he
    simp [execOp, resolve, Deferred.ofValue, invoke, hy, he]
    simp [ev, he]
  unfold runK
  rw [hrun]
  refine hK l _ hl ?_
  have hb : Below w.heap.size w (w.drew.drew.alloc (.cells cs 5)) := (below_drewN' (Below.refl _ _) 2).alloc (Nat.le_refl _) _
  exact ⟨by simp only [size_alloc]; rfl, Blk.new' hcs _, fun h => (h.drewN 2).alloc _, fun hB h => (below_drewN' h 2).alloc hB _, fun h => h.below hb⟩
theorem and_mask : ∀ a : Nat, a < 2049 → bits .and .u64 (a : Int) 4294967295 = (a : Int) := by decide +kernel
theorem mul64_one {n : Nat} {w : World} {K : Value → World → Prop} (hn : n ≤ 2048) (hK : K (.tuple #[.int .u64 0, .int .u64 n]) w) : callK Tryd.prog 89 [.int .u64 1, .int .u64 n] w K := by
  refine call_of Tryd.func89 Code.h89 (by simp [Code.c89]) ?_
  have q1 : (1 : Int) / 4294967296 = 0 := by decide
  have q2 : (n : Int) / 4294967296 = 0 := by omega
  have q3 := and_mask n (by omega)
  have q4 : bits .and .u64 1 4294967295 = 1 := and_mask 1 (by omega)
  have q5 : bits .and .u64 0 4294967295 = 0 := and_mask 0 (by omega)
  simp (disch := omega) only [wu64, wu32, wu8, fdiv_nn, EO, ↓EP, EQ, EM, ↓reduceIte, Int.reduceAdd, Int.reduceEq, Int.reduceLE, Int.reduceLT, Int.reduceMul, Int.reduceNeg, Int.reducePow, Int.reduceSub, Int.reduceToNat, Nat.reduceAdd, Nat.reduceEqDiff, Nat.reduceLT, Nat.reduceLeDiff, Nat.reduceMul, reduceCtorEq, Code.c89, q1, q2, q3, q4, q5, Int.zero_mul, Int.mul_zero, Int.one_mul, Int.mul_one, Int.zero_add, Int.add_zero, Int.zero_ediv]
  exact hK
theorem mul_one_k {n : Nat} {w : World} {K : Value → World → Prop} (hn : n ≤ 2048) (hK : K (.tuple #[.int .u64 0, .int .u64 n]) w) : callK Tryd.prog 59 [.int .u64 1, .int .u64 n] w K := by
  refine call_of Tryd.func59 Code.h59 (by simp [Code.c59]) ?_
  simp (disch := omega) only [wu64, wu32, wu8, fdiv_nn, EO, ↓EP, EQ, EM, ↓reduceIte, Int.reduceAdd, Int.reduceEq, Int.reduceLE, Int.reduceLT, Int.reduceMul, Int.reduceNeg, Int.reducePow, Int.reduceSub, Int.reduceToNat, Nat.reduceAdd, Nat.reduceEqDiff, Nat.reduceLT, Nat.reduceLeDiff, Nat.reduceMul, reduceCtorEq, Code.c59]
  refine mul64_one hn ?_
  simp (disch := omega) only [wu64, wu32, wu8, fdiv_nn, EO, ↓EP, EQ, EM, ↓reduceIte, Int.reduceAdd, Int.reduceEq, Int.reduceLE, Int.reduceLT, Int.reduceMul, Int.reduceNeg, Int.reducePow, Int.reduceSub, Int.reduceToNat, Nat.reduceAdd, Nat.reduceEqDiff, Nat.reduceLT, Nat.reduceLeDiff, Nat.reduceMul, reduceCtorEq]
  exact hK
theorem cpy_num {k : IntKind} {w : World} {b o n c m d : Nat} {B : Option Addr} {L l : List Int} {K : Value → World → Prop} (hb : Blk w b (nums k L)) (hy : Rd w B (nums k l)) (hl : l.length = Nat.min m n) (h0 : 0 < l.length) (ho : o + l.length ≤ L.length)
    (hK : ∀ w', Put w w' b (nums k (L.take o ++ l ++ L.drop (o + l.length))) → K (.int .i64 l.length) w') : cpyT 1 (.slice (some ⟨b, o, none⟩) n c) (.slice B m d) w K .mk := by
  refine ⟨nums k l, by rw [nums_length, Nat.mul_one, hl], fun _ => ?_, fun h => by omega⟩
  obtain ⟨p, hp, hcl⟩ := hy.cells (by rw [nums_length]; exact h0)
  refine ⟨p, b, o, hp, hcl, rfl, ?_, ?_, ?_, ?_⟩
  · intro v hv
    unfold nums at hv
    rw [List.mem_map] at hv
    obtain ⟨_, _, rfl⟩ := hv
    rfl
  · intro j hj
    rw [nums_length] at hj
    exact hb.isSome (by rw [nums_length]; omega)
  · intro j hj
    exact hb.frozen _
  · rw [← hl]
    refine hK _ ?_
    have := put_cells hb o (nums k l) (by rw [nums_length, nums_length]; exact ho)
    have e : (nums k L).take o ++ nums k l ++ (nums k L).drop (o + (nums k l).length) = nums k (L.take o ++ l ++ L.drop (o + l.length)) := by
      rw [nums_length]; simp [nums]
    rw [e] at this
    exact this
theorem fr_drewN (w : World) (n : Nat) : Fr w (w.drewN n) nob := ⟨below_drewN' (Below.refl _ _) n, fun b hb _ => rfl⟩
set_option maxHeartbeats 4000000 in
theorem repeat_k {w : World} {B : Option Addr} {c n : Nat} {x : Int} (hb : Rd w B (nums .u8 [x])) (h1 : 1 ≤ n) (h2 : n ≤ 2048) {K : Value → World → Prop}
    (hK : ∀ A c w', n ≤ c → Rd w' A (nums .u8 (List.replicate n x)) → Fr w w' nob → K (.slice A n c) w') : callK Tryd.prog 33 [.slice B 1 c, .int .i64 n] w K := by
  refine call_of Tryd.func33 Code.h33 (by simp [Code.c33]) ?_
  simp (disch := omega) only [wu64, wu32, wu8, fdiv_nn, EO, ↓EP, EQ, EM, ↓reduceIte, Int.reduceAdd, Int.reduceEq, Int.reduceLE, Int.reduceLT, Int.reduceMul, Int.reduceNeg, Int.reducePow, Int.reduceSub, Int.reduceToNat, Nat.reduceAdd, Nat.reduceEqDiff, Nat.reduceLT, Nat.reduceLeDiff, Nat.reduceMul, reduceCtorEq, Code.c33, W_join]
  refine mul_one_k h2 ?_
  simp (disch := omega) only [wu64, wu32, wu8, fdiv_nn, EO, ↓EP, EQ, EM, ↓reduceIte, Int.reduceAdd, Int.reduceEq, Int.reduceLE, Int.reduceLT, Int.reduceMul, Int.reduceNeg, Int.reducePow, Int.reduceSub, Int.reduceToNat, Nat.reduceAdd, Nat.reduceEqDiff, Nat.reduceLT, Nat.reduceLeDiff, Nat.reduceMul, reduceCtorEq, W_join]
  refine mnz_k (n := n) (by omega) (by simp (disch := omega) only [wu64, wu32, wu8, fdiv_nn, EO, ↓EP, EQ, EM, ↓reduceIte, Int.reduceAdd, Int.reduceEq, Int.reduceLE, Int.reduceLT, Int.reduceMul, Int.reduceNeg, Int.reducePow, Int.reduceSub, Int.reduceToNat, Nat.reduceAdd, Nat.reduceEqDiff, Nat.reduceLT, Nat.reduceLeDiff, Nat.reduceMul, reduceCtorEq]) fun L w1 hl n1 => ?_
  have f1 := n1.fr nob
  have hcl : (n : Int) ≤ (L.length : Int) := by omega
  simp (disch := omega) only [wu64, wu32, wu8, fdiv_nn, EO, ↓EP, EQ, EM, ↓reduceIte, Int.reduceAdd, Int.reduceEq, Int.reduceLE, Int.reduceLT, Int.reduceMul, Int.reduceNeg, Int.reducePow, Int.reduceSub, Int.reduceToNat, Nat.reduceAdd, Nat.reduceEqDiff, Nat.reduceLT, Nat.reduceLeDiff, Nat.reduceMul, reduceCtorEq, i_slc_hm]
  have hL0 : (0 : Int) ≤ L.length := by omega
  refine cpy_num (l := [x]) n1.blk (hb.nb f1) (Nat.min_eq_left h1).symm (by simp) (by simp; omega) fun w2 p2 => ?_
  simp (disch := omega) only [wu64, wu32, wu8, fdiv_nn, EO, ↓EP, EQ, EM, ↓reduceIte, Int.reduceAdd, Int.reduceEq, Int.reduceLE, Int.reduceLT, Int.reduceMul, Int.reduceNeg, Int.reducePow, Int.reduceSub, Int.reduceToNat, Nat.reduceAdd, Nat.reduceEqDiff, Nat.reduceLT, Nat.reduceLeDiff, Nat.reduceMul, reduceCtorEq]
  have hb2 : Blk w2 w.heap.size (nums .u8 (List.replicate 1 x ++ L.drop 1)) := by simpa using p2.blk
  have f2 : Fr w w2 nob := f1.trans p2.fr fun y hy e => by omega
  refine loop_inv (fun t ρ w' => ∃ j : Nat, 1 ≤ j ∧ j ≤ n ∧ ρ 10 = .int .i64 j ∧ Blk w' w.heap.size (nums .u8 (List.replicate j x ++ L.drop j)) ∧ Fr w w' nob ∧ t = n - j) _ ⟨1, Nat.le_refl _, h1, by simp (disch := omega) only [wu64, wu32, wu8, fdiv_nn, EO, ↓EP, EQ, EM, ↓reduceIte, Int.reduceAdd, Int.reduceEq, Int.reduceLE, Int.reduceLT, Int.reduceMul, Int.reduceNeg, Int.reducePow, Int.reduceSub, Int.reduceToNat, Nat.reduceAdd, Nat.reduceEqDiff, Nat.reduceLT, Nat.reduceLeDiff, Nat.reduceMul, reduceCtorEq], hb2, f2, rfl⟩ ?_
  rintro t ρ w3 hf ⟨j, hj1, hjn, h10, hb3, f3, rfl⟩ N hN
  have r7 : ρ 7 = .int .i64 n := by rw [hf 7 rfl]; simp (disch := omega) only [wu64, wu32, wu8, fdiv_nn, EO, ↓EP, EQ, EM, ↓reduceIte, Int.reduceAdd, Int.reduceEq, Int.reduceLE, Int.reduceLT, Int.reduceMul, Int.reduceNeg, Int.reducePow, Int.reduceSub, Int.reduceToNat, Nat.reduceAdd, Nat.reduceEqDiff, Nat.reduceLT, Nat.reduceLeDiff, Nat.reduceMul, reduceCtorEq]
  have r8 : ρ 8 = .int .i64 n := by rw [hf 8 rfl]; simp (disch := omega) only [wu64, wu32, wu8, fdiv_nn, EO, ↓EP, EQ, EM, ↓reduceIte, Int.reduceAdd, Int.reduceEq, Int.reduceLE, Int.reduceLT, Int.reduceMul, Int.reduceNeg, Int.reducePow, Int.reduceSub, Int.reduceToNat, Nat.reduceAdd, Nat.reduceEqDiff, Nat.reduceLT, Nat.reduceLeDiff, Nat.reduceMul, reduceCtorEq]
  have r9 : ρ 9 = .slice (some ⟨w.heap.size, 0, none⟩) n n := by rw [hf 9 rfl]; simp (disch := omega) only [wu64, wu32, wu8, fdiv_nn, EO, ↓EP, EQ, EM, ↓reduceIte, Int.reduceAdd, Int.reduceEq, Int.reduceLE, Int.reduceLT, Int.reduceMul, Int.reduceNeg, Int.reducePow, Int.reduceSub, Int.reduceToNat, Nat.reduceAdd, Nat.reduceEqDiff, Nat.reduceLT, Nat.reduceLeDiff, Nat.reduceMul, reduceCtorEq]
  clear hf
  by_cases hc : (j : Int) < (n : Int)
  · have hs : subA (some ⟨w.heap.size, 0, none⟩) n j 1 = some ⟨w.heap.size, j, none⟩ := by
      unfold subA
      rw [if_neg (by omega)]
      simp [Addr.add]
      omega
    obtain ⟨q, hq⟩ : ∃ q, q = Nat.min j (n - j) := ⟨_, rfl⟩
    have hq0 : 0 < q := by rw [hq]; exact Nat.lt_min.2 ⟨by omega, by omega⟩
    have hq1 : q ≤ j := by rw [hq]; exact Nat.min_le_left _ _
    have hq2 : q ≤ n - j := by rw [hq]; exact Nat.min_le_right _ _
    simp (disch := omega) only [wu64, wu32, wu8, fdiv_nn, EO, ↓EP, EQ, EM, ↓reduceIte, Int.reduceAdd, Int.reduceEq, Int.reduceLE, Int.reduceLT, Int.reduceMul, Int.reduceNeg, Int.reducePow, Int.reduceSub, Int.reduceToNat, Nat.reduceAdd, Nat.reduceEqDiff, Nat.reduceLT, Nat.reduceLeDiff, Nat.reduceMul, reduceCtorEq, h10, r7, r8, r9, hc, hs]
    intro m
    have fd := fr_drewN w3 (1 + m)
    have hrd : Rd (w3.drewN (1 + m)) (some ⟨w.heap.size, 0, none⟩) (nums .u8 (List.replicate q x)) := by
      refine (hb3.rd 0 (n := q) ?_).nb fd
      rw [List.drop_zero, nums_take, List.take_append_of_le_length (by simp; omega), List.take_replicate, Nat.min_eq_left hq1]
    refine cpy_num (l := List.replicate q x) (hb3.nb fd) hrd (by rw [List.length_replicate, hq]) (by simpa using hq0) (by simp; omega) fun w4 p4 => ?_
    have hb4 : Blk w4 w.heap.size (nums .u8 (List.replicate (j + q) x ++ L.drop (j + q))) := by
      have h := p4.blk
      have e : (List.replicate j x ++ L.drop j).take j ++ List.replicate q x ++ (List.replicate j x ++ L.drop j).drop (j + (List.replicate q x).length) = List.replicate (j + q) x ++ L.drop (j + q) := by
        rw [List.take_left' (by simp), List.length_replicate, List.drop_append, List.drop_eq_nil_of_le (by simp), List.length_replicate, List.nil_append, List.drop_drop, ← List.replicate_append_replicate]
        congr 2
        omega
      rw [e] at h
      exact h
    have f4 : Fr w w4 nob := (f3.nb fd).trans p4.fr fun y hy e => by omega
    rw [List.length_replicate]
    have hjq : (j : Int) + (q : Int) ≤ 2048 := by omega
    simp (disch := omega) only [wu64, wu32, wu8, fdiv_nn, EO, ↓EP, EQ, EM, ↓reduceIte, Int.reduceAdd, Int.reduceEq, Int.reduceLE, Int.reduceLT, Int.reduceMul, Int.reduceNeg, Int.reducePow, Int.reduceSub, Int.reduceToNat, Nat.reduceAdd, Nat.reduceEqDiff, Nat.reduceLT, Nat.reduceLeDiff, Nat.reduceMul, reduceCtorEq, h10]
    intro m2
    have fe := fr_drewN w4 m2
    refine hN (n - (j + q)) _ _ (by omega) ⟨j + q, by omega, by omega, by simp (disch := omega) only [wu64, wu32, wu8, fdiv_nn, EO, ↓EP, EQ, EM, ↓reduceIte, Int.reduceAdd, Int.reduceEq, Int.reduceLE, Int.reduceLT, Int.reduceMul, Int.reduceNeg, Int.reducePow, Int.reduceSub, Int.reduceToNat, Nat.reduceAdd, Nat.reduceEqDiff, Nat.reduceLT, Nat.reduceLeDiff, Nat.reduceMul, reduceCtorEq, Int.natCast_add], hb4.nb fe, f4.nb fe, rfl⟩
  · obtain rfl : j = n := by omega
    simp (disch := omega) only [wu64, wu32, wu8, fdiv_nn, EO, ↓EP, EQ, EM, ↓reduceIte, Int.reduceAdd, Int.reduceEq, Int.reduceLE, Int.reduceLT, Int.reduceMul, Int.reduceNeg, Int.reducePow, Int.reduceSub, Int.reduceToNat, Nat.reduceAdd, Nat.reduceEqDiff, Nat.reduceLT, Nat.reduceLeDiff, Nat.reduceMul, reduceCtorEq, h10, r7, r8, r9, hc]
    refine hK _ _ _ (Nat.le_refl _) (hb3.rd 0 (n := j) ?_) f3
    rw [List.drop_zero, nums_take, List.take_left' (by simp)]
end Go.Proofs.YtcgplgpdcfocpaaDoor.Spec
end
section
set_option linter.unusedVariables false
namespace Go.Proofs.YtcgplgpdcfocpaaDoor.Eng
open Go Go.RowKit
theorem or_128 : ∀ a : Nat, a < 256 → bits .or .u8 (a : Int) 128 = (a : Int) % 128 + 128 := by decide +kernel
theorem or_128' : ∀ a : Nat, a < 256 → bits .or .u8 128 (a : Int) = (a : Int) % 128 + 128 := by decide +kernel
theorem d8_or128 {a : Int} (h : 0 ≤ a ∧ a < 256) : bits .or .u8 a 128 = a % 128 + 128 := by
  obtain ⟨a, rfl⟩ := Int.eq_ofNat_of_zero_le h.1; exact or_128 a (by omega)
theorem d8_128or {a : Int} (h : 0 ≤ a ∧ a < 256) : bits .or .u8 128 a = a % 128 + 128 := by
  obtain ⟨a, rfl⟩ := Int.eq_ofNat_of_zero_le h.1; exact or_128' a (by omega)
def ByteL (p : List Int) : Prop := ∀ i : Nat, 0 ≤ at' p (i : Int) ∧ at' p (i : Int) < 256
theorem atN (l : List Int) (i : Nat) : at' l (i : Int) = l.getD i 0 := by unfold at'; rw [Int.toNat_natCast]
theorem ByteL.of {l : List Int} (h : ∀ x ∈ l, 0 ≤ x ∧ x < 256) : ByteL l := by
  intro i
  rw [atN, List.getD_eq_getElem?_getD]
  cases e : l[i]? with
  | none => simp
  | some x => exact h x (List.mem_of_getElem? e)
theorem drop_at {l : List Int} {i : Nat} (h : i < l.length) : l.drop i = at' l (i : Int) :: l.drop (i + 1) := by
  rw [atN, List.drop_eq_getElem_cons h, List.getD_eq_getElem?_getD, List.getElem?_eq_getElem h]; rfl
theorem at_drop (l : List Int) (o i : Nat) : at' (l.drop o) (i : Int) = at' l ((o + i : Nat) : Int) := by
  rw [atN, atN, List.getD_eq_getElem?_getD, List.getElem?_drop, ← List.getD_eq_getElem?_getD]
theorem at_take {l : List Int} {n i : Nat} (h : i < n) : at' (l.take n) (i : Int) = at' l (i : Int) := by
  rw [atN, atN, List.getD_eq_getElem?_getD, List.getElem?_take, if_pos h, ← List.getD_eq_getElem?_getD]
theorem Vw.cell {w : World} {A : Option Addr} {n c : Nat} {l : List Int} {k : IntKind} (h : Vw k w (.slice A n c) l) (h0 : 0 < l.length) : ∃ ad, A = some ad ∧ n = l.length ∧ ∀ i : Nat, i < l.length → w.cell? (ad.add i) = some (.int k (at' l (i : Int))) := by
  obtain ⟨A', c', e, hc, hr⟩ := h
  cases e
  obtain ⟨ad, e, _, hcl⟩ := hr.get (by rw [nums_length]; exact h0)
  exact ⟨ad, e, rfl, fun i hi => hcl.numN hi⟩
end Go.Proofs.YtcgplgpdcfocpaaDoor.Eng
end
section
set_option linter.unusedVariables false
set_option linter.unusedSimpArgs false
namespace Go.Proofs.YtcgplgpdcfocpaaDoor.Der
open Go Go.RowKit Go.Proofs.YtcgplgpdcfocpaaDoor.Eng
structure Tlv where
  cls : Int
  tag : Int
  cons : Bool
  data : List Int
  raw : List Int
deriving DecidableEq
def sevenHi : Nat → Nat → List Int
  | 0, _ => []
  | f + 1, v => if v = 0 then [] else sevenHi f (v / 128) ++ [((v % 128 + 128 : Nat) : Int)]
def sevenR (v : Nat) : List Int := sevenHi 10 (v / 128) ++ [((v % 128 : Nat) : Int)]
def bytesBE : Nat → Nat → List Int
  | 0, _ => []
  | f + 1, v => if v = 0 then [] else bytesBE f (v / 256) ++ [((v % 256 : Nat) : Int)]
def lenBytes (n : Nat) : List Int := if n < 128 then [(n : Int)] else (128 + ((bytesBE 4 n).length : Int)) :: bytesBE 4 n
def headR (cls tag : Int) (cons : Bool) (n : Nat) : List Int :=
  (if tag < 31 then [cls * 64 + (if cons then 32 else 0) + tag] else (cls * 64 + (if cons then 32 else 0) + 31) :: sevenR tag.toNat) ++ lenBytes n
def putR (cls tag : Int) (cons : Bool) (data : List (List Int)) : List Int × Int :=
  if cls < 0 ∨ 3 < cls ∨ tag < 0 ∨ 268435455 < tag ∨ (cls = 0 ∧ tag = 0) then ([], 1)
  else if 16777216 < (data.map List.length).sum then ([], 3)
  else (headR cls tag cons (data.map List.length).sum ++ data.flatten, 0)
end Go.Proofs.YtcgplgpdcfocpaaDoor.Der
end
section
set_option linter.unusedVariables false
set_option linter.unusedSimpArgs false
namespace Go.Proofs.YtcgplgpdcfocpaaDoor.Der
open Go Go.RowKit Go.Proofs.YtcgplgpdcfocpaaDoor.Eng
def S (l : List UInt8) : ByteArray := ⟨l.toArray⟩
theorem S_size (l : List UInt8) : (S l).size = l.length := by simp [S, ByteArray.size]
theorem S_append (a b : List UInt8) : S a ++ S b = S (a ++ b) := by
  apply ByteArray.ext
  simp [S]
theorem S_dot : S [46] = ⟨#[46]⟩ := rfl
def digsF : Nat → Nat → List UInt8
  | 0, _ => []
  | f + 1, u => if u < 10 then [UInt8.ofNat (48 + u)] else digsF f (u / 10) ++ [UInt8.ofNat (48 + u % 10)]
def digs (u : Nat) : List UInt8 := digsF 20 u
theorem digsF_len : ∀ (f u : Nat), (digsF f u).length ≤ f
  | 0, u => by simp [digsF]
  | f + 1, u => by
    rw [digsF]
    split
    · simp
    · have := digsF_len f (u / 10)
      simp; omega
theorem digs_len (u : Nat) : (digs u).length ≤ 20 := digsF_len 20 u
def satA (v : Int) : Int := if 1099511627776 < v then 1099511627776 else v
def arcsGo : List Int → List Int → Int → Nat → Option (List Int)
  | [], l, _, _ => some l
  | c :: r, l, v, n => if c = 46 ∧ 0 < n then arcsGo r (l ++ [v]) 0 0 else if c < 48 ∨ 57 < c ∨ (n = 1 ∧ v = 0) then none else arcsGo r l (satA (10 * v + (c - 48))) (min (n + 1) 20)
def arcsR (s : List Int) : Option (List Int) :=
  match arcsGo (s ++ [46]) [] 0 0 with
  | none => none
  | some l => if l.length < 2 ∨ 2 < at' l 0 ∨ (at' l 0 < 2 ∧ 40 ≤ at' l 1) then none else some l
def putOidR (s : List Int) : List Int × Int :=
  match arcsR s with
  | none => ([], 6)
  | some l => if l.any (fun v => decide (2147483647 < v)) then ([], 3) else (sevenR (40 * at' l 0 + at' l 1).toNat ++ (l.drop 2).flatMap (fun v => sevenR v.toNat), 0)
end Go.Proofs.YtcgplgpdcfocpaaDoor.Der
end
section
set_option linter.unusedVariables false
set_option linter.unusedSimpArgs false
namespace Go.Proofs.YtcgplgpdcfocpaaDoor.Der
open Go Go.RowKit Go.Proofs Go.Proofs.YtcgplgpdcfocpaaDoor.Eng Go.Proofs.YtcgplgpdcfocpaaDoor.Code
set_option maxRecDepth 100000
attribute [local irreducible] callK S.W opsW scrW scrT
theorem take_snoc {l : List Int} {j : Nat} (h : j < l.length) : l.take (j + 1) = l.take j ++ [at' l (j : Int)] := by
  rw [List.take_add_one, List.getElem?_eq_getElem h, atN, List.getD_eq_getElem?_getD, List.getElem?_eq_getElem h]; rfl
end Go.Proofs.YtcgplgpdcfocpaaDoor.Der
end
section
set_option linter.unusedVariables false
set_option linter.unusedSimpArgs false
namespace Go.Proofs.YtcgplgpdcfocpaaDoor.Der
open Go Go.RowKit Go.Proofs Go.Proofs.YtcgplgpdcfocpaaDoor.Eng Go.Proofs.YtcgplgpdcfocpaaDoor.Code
set_option maxRecDepth 100000
attribute [local irreducible] callK S.W opsW scrW scrT
theorem readn {k : IntKind} {w : World} {v : Value} {l : List Int} (h : Sl k w v l) {n : Nat} (hn : l.length = n) : ∃ A c, v = .slice A n c ∧ n ≤ c ∧ Rd w A (nums k l) := by
  subst hn; obtain ⟨A, c, e, h1, h2, _⟩ := h.read; exact ⟨A, c, e, h1, h2⟩
structure Rws (w0 w : World) (X : Value) (vs : List Value) (ls : List (List Int)) : Prop where
  len : vs.length = ls.length
  each : ∀ (i : Nat) (v : Value) (l : List Int), vs[i]? = some v → ls[i]? = some l → Sl .u8 w v l
  up : ∀ (i : Nat) (v : Value) (b : Nat), vs[i]? = some v → blkOf v = some b → w0.heap.size ≤ b ∧ b < w.heap.size ∧ blkOf X ≠ some b
  apart : ∀ (i j : Nat) (u v : Value) (b : Nat), i ≠ j → vs[i]? = some u → vs[j]? = some v → blkOf u = some b → blkOf v ≠ some b
theorem Rws.nil (w0 w : World) (X : Value) : Rws w0 w X [] [] := ⟨rfl, fun i v l h => by simp at h, fun i v b h => by simp at h, fun i j u v b _ h => by simp at h⟩
theorem Rws.nb {w0 w w' : World} {X : Value} {vs : List Value} {ls : List (List Int)} (h : Rws w0 w X vs ls) (f : Fr w w' nob) : Rws w0 w' X vs ls :=
  ⟨h.len, fun i v l h1 h2 => Sl.nb (h.each i v l h1 h2) f, fun i v b h1 h2 => ⟨(h.up i v b h1 h2).1, Nat.lt_of_lt_of_le (h.up i v b h1 h2).2.1 f.size, (h.up i v b h1 h2).2.2⟩, h.apart⟩
theorem Rws.add {w0 w w' : World} {X v : Value} {vs : List Value} {ls : List (List Int)} {l : List Int} (h : Rws w0 w X vs ls) (hX : ∀ b, blkOf X = some b → b < w.heap.size) (f0 : Fr w0 w nob) (g : Gw .u8 w w' v l) : Rws w0 w' X (vs ++ [v]) (ls ++ [l]) := by
  have h' := h.nb g.fr
  have old : ∀ (i : Nat) (u : Value) (b : Nat), vs[i]? = some u → blkOf u = some b → b < w.heap.size := fun i u b h1 h2 => (h.up i u b h1 h2).2.1
  have spl : ∀ {i : Nat} {u : Value}, (vs ++ [v])[i]? = some u → (i < vs.length ∧ vs[i]? = some u) ∨ (i = vs.length ∧ u = v) := by
    intro i u hi
    by_cases hlt : i < vs.length
    · rw [List.getElem?_append_left hlt] at hi; exact .inl ⟨hlt, hi⟩
    · have hi' := (List.getElem?_eq_some_iff.1 hi).1
      simp at hi'
      have e : i = vs.length := by omega
      subst e
      simp at hi
      exact .inr ⟨rfl, hi.symm⟩
  refine ⟨by simp [h.len], fun i u l' h1 h2 => ?_, fun i u b h1 h2 => ?_, fun i j u u' b hne h1 h2 hb => ?_⟩
  · rcases spl h1 with ⟨hlt, h1⟩ | ⟨rfl, rfl⟩
    · rw [List.getElem?_append_left (by rw [← h.len]; exact hlt)] at h2
      exact h'.each i u l' h1 h2
    · rw [h.len] at h2
      simp at h2
      subst h2
      exact g.sl
  · rcases spl h1 with ⟨hlt, h1⟩ | ⟨rfl, rfl⟩
    · exact h'.up i u b h1 h2
    · have := g.up b h2
      have z := f0.size
      exact ⟨by omega, g.sl.lt h2, fun e => by have := hX b e; omega⟩
  · rcases spl h1 with ⟨hlt, k1⟩ | ⟨k1, e1⟩
    · rcases spl h2 with ⟨hlt2, k2⟩ | ⟨k2, e2⟩
      · exact h.apart i j u u' b hne k1 k2 hb
      · intro e
        rw [e2] at e
        have := g.up b e
        have := old i u b k1 hb
        omega
    · rw [e1] at hb
      rcases spl h2 with ⟨hlt2, k2⟩ | ⟨k2, e2⟩
      · intro e
        have := g.up b hb
        have := old j u' b k2 e
        omega
      · exact absurd (k1.trans k2.symm) hne
theorem Rws.row {w0 w w' : World} {X X' : Value} {n : Nat} {cs : List Value} {vs : List Value} {ls : List (List Int)} (h : Rws w0 w X vs ls) {sz : Nat} (a : Ag sz w X n cs X' w') : Rws w0 w' X' vs ls := by
  refine ⟨h.len, fun i v l h1 h2 => (h.each i v l h1 h2).fr a.fr fun b e => (h.up i v b h1 e).2.2, fun i v b h1 h2 => ?_, h.apart⟩
  obtain ⟨u1, u2, u3⟩ := h.up i v b h1 h2
  refine ⟨u1, Nat.lt_of_lt_of_le u2 a.fr.size, fun e => ?_⟩
  rcases a.where_ with hw | hw
  · exact u3 (hw ▸ e)
  · have := hw b e; omega
def tcells (t : Tlv) (d r : Value) : List Value := [.int .i64 t.cls, .int .i64 t.tag, .bool t.cons, d, r]
def tflat (ts : List Tlv) : List (List Int) := ts.flatMap fun t => [t.data, t.raw]
def cellsT : List Tlv → List Value → List Value
  | t :: ts, d :: r :: vs => tcells t d r ++ cellsT ts vs
  | _, _ => []
theorem tflat_len (ts : List Tlv) : (tflat ts).length = 2 * ts.length := by
  induction ts with
  | nil => rfl
  | cons t ts ih => simp only [tflat, List.flatMap_cons, List.length_append, List.length_cons, List.length_nil] at *; omega
theorem tflat_add (ts : List Tlv) (t : Tlv) : tflat (ts ++ [t]) = tflat ts ++ [t.data, t.raw] := by simp [tflat]
theorem cellsT_add : ∀ (ts : List Tlv) (vs : List Value) (t : Tlv) (d r : Value), vs.length = 2 * ts.length → cellsT (ts ++ [t]) (vs ++ [d, r]) = cellsT ts vs ++ tcells t d r
  | [], vs, t, d, r, h => by
    have : vs = [] := List.length_eq_zero_iff.1 (by simpa using h)
    subst this; simp [cellsT]
  | t :: ts, d :: r :: vs, t', d', r', h => by
    simp only [cellsT, List.cons_append]
    rw [cellsT_add ts vs t' d' r' (by simp at h; omega), List.append_assoc]
  | t :: ts, [], _, _, _, h => by simp at h
  | t :: ts, [d], _, _, _, h => by simp at h; omega
structure Tls (w0 w : World) (X : Value) (ts : List Tlv) (vs : List Value) : Prop where
  g : Gg 5 w0 w X ts.length (cellsT ts vs)
  r : Rws w0 w X vs (tflat ts)
theorem Tls.nil (w : World) : Tls w w (.slice none 0 0) [] [] := ⟨Gg.nil 5 w, Rws.nil w w _⟩
theorem Tls.nb {w0 w w' : World} {X : Value} {ts : List Tlv} {vs : List Value} (h : Tls w0 w X ts vs) (f : Fr w w' nob) : Tls w0 w' X ts vs := ⟨h.g.step f, h.r.nb f⟩
theorem Tls.vlen {w0 w : World} {X : Value} {ts : List Tlv} {vs : List Value} (h : Tls w0 w X ts vs) : vs.length = 2 * ts.length := by rw [h.r.len, tflat_len]
end Go.Proofs.YtcgplgpdcfocpaaDoor.Der
end
section
set_option linter.unusedVariables false
set_option linter.unusedSimpArgs false
namespace Go.Proofs.YtcgplgpdcfocpaaDoor.Der
open Go Go.RowKit Go.Proofs Go.Proofs.YtcgplgpdcfocpaaDoor.Eng Go.Proofs.YtcgplgpdcfocpaaDoor.Code
set_option maxRecDepth 100000
attribute [local irreducible] callK S.W opsW scrW scrT
theorem Gg.lt {sz : Nat} {w0 w : World} {v : Value} {n : Nat} {cs : List Value} (g : Gg sz w0 w v n cs) : ∀ b, blkOf v = some b → b < w.heap.size := fun b e => g.sl.lt e
theorem Tls.add {w0 w w1 w2 w3 w4 : World} {X X' : Value} {ts : List Tlv} {vs : List Value} {t : Tlv} {d r : Value} (h : Tls w0 w X ts vs) (gd : Gw .u8 w w1 d t.data) (gr : Gw .u8 w1 w2 r t.raw) (f : Fr w2 w3 nob) (a : Ag 5 w3 X (ts.length + 1) (cellsT ts vs ++ tcells t d r) X' w4) : Tls w0 w4 X' (ts ++ [t]) (vs ++ [d, r]) := by
  have hX : ∀ b, blkOf X = some b → b < w.heap.size := fun b e => h.g.sl.lt e
  have r1 := h.r.add hX h.g.fr gd
  have r2 := r1.add (fun b e => Nat.lt_of_lt_of_le (hX b e) gd.fr.size) (h.g.fr.nb gd.fr) gr
  have r3 := (r2.nb f).row a
  refine ⟨?_, ?_⟩
  · rw [List.length_append, cellsT_add ts vs t d r h.vlen]
    exact (((h.g.step gd.fr).step gr.fr).step f).apd a
  · rw [tflat_add]
    simpa using r3
end Go.Proofs.YtcgplgpdcfocpaaDoor.Der
end
section
set_option linter.unusedVariables false
set_option linter.unusedSimpArgs false
namespace Go.Proofs.YtcgplgpdcfocpaaDoor.Der
open Go Go.RowKit Go.Proofs Go.Proofs.YtcgplgpdcfocpaaDoor.Eng Go.Proofs.YtcgplgpdcfocpaaDoor.Code
set_option maxRecDepth 100000
attribute [local irreducible] callK S.W opsW scrW scrT
theorem pos_cells {w : World} {A : Option Addr} {l : List Int} (hr : Rd w A (nums .u8 l)) (h0 : 0 < l.length) : ∃ ad, A = some ad ∧ ∀ i : Nat, i < l.length → w.cell? (ad.add i) = some (.int .u8 (at' l (i : Int))) := by
  obtain ⟨ad, e, _, hcl⟩ := hr.get (by rw [nums_length]; omega)
  exact ⟨ad, e, fun i hi => hcl.numN hi⟩
def pr2 (a : Value) (e : Int) : Value := .tuple #[a, .int .i64 e]
end Go.Proofs.YtcgplgpdcfocpaaDoor.Der
end
section
set_option linter.unusedVariables false
set_option linter.unusedSimpArgs false
namespace Go.Proofs.YtcgplgpdcfocpaaDoor.Big
open Go Go.Proofs.YtcgplgpdcfocpaaDoor.Eng
def pw (k : Nat) : Int := 4294967296 ^ k
theorem pw_zero : pw 0 = 1 := rfl
theorem pw_succ (k : Nat) : pw (k + 1) = pw k * 4294967296 := by unfold pw; exact Int.pow_succ _ _
theorem pw_pos (k : Nat) : 0 < pw k := by unfold pw; exact Int.pow_pos (by decide)
theorem pw_add (a b : Nat) : pw (a + b) = pw a * pw b := by unfold pw; exact Int.pow_add _ _ _
theorem pw_le {a b : Nat} (h : a ≤ b) : pw a ≤ pw b := by
  obtain ⟨d, rfl⟩ := Nat.exists_eq_add_of_le h
  rw [pw_add]
  have h1 := pw_pos a
  have h2 := pw_pos d
  have := Int.mul_le_mul_of_nonneg_left (show (1 : Int) ≤ pw d by omega) (show (0 : Int) ≤ pw a by omega)
  omega
attribute [irreducible] pw
def val : List Int → Int
  | [] => 0
  | x :: r => x + 4294967296 * val r
def Lim (l : List Int) : Prop := ∀ x ∈ l, 0 ≤ x ∧ x < 4294967296
theorem val_nil : val [] = 0 := rfl
theorem val_cons (x : Int) (r : List Int) : val (x :: r) = x + 4294967296 * val r := rfl
theorem val_one (x : Int) : val [x] = x := by rw [val_cons, val_nil]; omega
theorem Lim.nil : Lim [] := fun x h => by cases h
theorem Lim.cons {x : Int} {r : List Int} (h : Lim (x :: r)) : (0 ≤ x ∧ x < 4294967296) ∧ Lim r := ⟨h x (by simp), fun y hy => h y (by simp [hy])⟩
theorem Lim.mk {x : Int} {r : List Int} (h0 : 0 ≤ x) (h1 : x < 4294967296) (h : Lim r) : Lim (x :: r) := fun y hy => by
  rcases List.mem_cons.1 hy with rfl | hy
  · exact ⟨h0, h1⟩
  · exact h y hy
theorem Lim.app {a b : List Int} (ha : Lim a) (hb : Lim b) : Lim (a ++ b) := fun x hx => by
  rcases List.mem_append.1 hx with h | h
  · exact ha x h
  · exact hb x h
theorem Lim.take {l : List Int} (h : Lim l) (n : Nat) : Lim (l.take n) := fun x hx => h x (List.mem_of_mem_take hx)
theorem Lim.drop {l : List Int} (h : Lim l) (n : Nat) : Lim (l.drop n) := fun x hx => h x (List.mem_of_mem_drop hx)
theorem Lim.set {l : List Int} (h : Lim l) (n : Nat) {x : Int} (h0 : 0 ≤ x) (h1 : x < 4294967296) : Lim (l.set n x) := fun y hy => by
  rcases List.mem_or_eq_of_mem_set hy with h' | rfl
  · exact h y h'
  · exact ⟨h0, h1⟩
theorem at_nat (l : List Int) (k : Nat) : at' l k = l.getD k 0 := by unfold at'; rw [Int.toNat_natCast]
theorem Lim.at {l : List Int} (h : Lim l) (i : Int) : 0 ≤ at' l i ∧ at' l i < 4294967296 := by
  unfold at'
  rw [List.getD_eq_getElem?_getD]
  cases e : l[i.toNat]? with
  | none => simp
  | some x => exact h x (List.mem_of_getElem? e)
theorem at_ge {l : List Int} {k : Nat} (h : l.length ≤ k) : at' l k = 0 := by rw [at_nat, List.getD_eq_getElem?_getD, List.getElem?_eq_none h]; rfl
theorem at_get {l : List Int} {k : Nat} (h : k < l.length) : at' l k = l[k] := by rw [at_nat, List.getD_eq_getElem?_getD, List.getElem?_eq_getElem h]; rfl
theorem at_take {l : List Int} {k n : Nat} (h : k < n) : at' (l.take n) k = at' l k := by
  rw [at_nat, at_nat, List.getD_eq_getElem?_getD, List.getD_eq_getElem?_getD, List.getElem?_take, if_pos h]
theorem at_drop (l : List Int) (k n : Nat) : at' (l.drop n) k = at' l (n + k : Nat) := by
  rw [at_nat, at_nat, List.getD_eq_getElem?_getD, List.getD_eq_getElem?_getD, List.getElem?_drop]
theorem val_app : ∀ (a b : List Int), val (a ++ b) = val a + pw a.length * val b
  | [], b => by rw [List.nil_append, List.length_nil, val_nil, pw_zero]; omega
  | x :: a, b => by
    rw [List.cons_append, val_cons, val_cons, val_app a b, List.length_cons, pw_succ]
    grind
theorem val_bd : ∀ {l : List Int}, Lim l → 0 ≤ val l ∧ val l < pw l.length
  | [], _ => by rw [val_nil, List.length_nil, pw_zero]; omega
  | x :: r, h => by
    obtain ⟨hx, hr⟩ := h.cons
    have := val_bd hr
    rw [val_cons, List.length_cons, pw_succ]
    omega
theorem val_zeros (n : Nat) : val (List.replicate n 0) = 0 := by
  induction n with
  | zero => rfl
  | succ n ih => rw [List.replicate_succ, val_cons, ih]; rfl
theorem val_take_succ {l : List Int} {k : Nat} (h : k < l.length) : val (l.take (k + 1)) = val (l.take k) + at' l k * pw k := by
  have e : l.take (k + 1) = l.take k ++ [at' l k] := by
    rw [List.take_add_one, List.getElem?_eq_getElem h, at_get h]; rfl
  have hk : (l.take k).length = k := by rw [List.length_take]; omega
  rw [e, val_app, hk, val_one]
  grind
theorem val_split (l : List Int) {k : Nat} (h : k ≤ l.length) : val l = val (l.take k) + pw k * val (l.drop k) := by
  have hk : (l.take k).length = k := by rw [List.length_take]; omega
  have := val_app (l.take k) (l.drop k)
  rwa [List.take_append_drop, hk] at this
theorem val_one_more {l : List Int} (h : l ≠ []) : ∃ k : Nat, l.length = k + 1 ∧ val l = val (l.take k) + at' l k * pw k := by
  obtain ⟨k, hk⟩ : ∃ k, l.length = k + 1 := ⟨l.length - 1, by have := List.length_pos_iff.2 h; omega⟩
  refine ⟨k, hk, ?_⟩
  rw [← val_take_succ (by omega), ← hk, List.take_length]
def Can (l : List Int) : Prop := Lim l ∧ (l = [] ∨ at' l ((l.length - 1 : Nat) : Int) ≠ 0)
theorem Can.nil : Can [] := ⟨Lim.nil, .inl rfl⟩
theorem Can.pos {l : List Int} (h : Can l) (h0 : l ≠ []) : pw (l.length - 1) ≤ val l := by
  obtain ⟨k, hk, hv⟩ := val_one_more h0
  rcases h.2 with e | e
  · exact absurd e h0
  rw [show l.length - 1 = k by omega] at *
  have h1 := h.1.at k
  have h2 := val_bd (h.1.take k)
  have h3 := Int.mul_le_mul_of_nonneg_right (show (1 : Int) ≤ at' l k by omega) (show (0 : Int) ≤ pw k by have := pw_pos k; omega)
  omega
theorem Can.zero {l : List Int} (h : Can l) (hv : val l = 0) : l = [] := by
  by_cases h0 : l = []
  · exact h0
  · have := h.pos h0
    have := pw_pos (l.length - 1)
    omega
theorem Can.tail {x : Int} {r : List Int} (h : Can (x :: r)) : Can r := by
  refine ⟨h.1.cons.2, ?_⟩
  by_cases hr : r = []
  · exact .inl hr
  · rcases h.2 with e | e
    · cases e
    · right
      have := List.length_pos_iff.2 hr
      obtain ⟨k, hk⟩ : ∃ k, r.length = k + 1 := ⟨r.length - 1, by omega⟩
      rw [List.length_cons, hk] at e
      rw [hk]
      simp only [Nat.add_sub_cancel] at e ⊢
      rw [at_nat] at e ⊢
      simpa using e
theorem Can.uniq : ∀ {a b : List Int}, Can a → Can b → val a = val b → a = b
  | [], b, _, hb, h => (hb.zero h.symm).symm
  | x :: r, [], ha, _, h => ha.zero h
  | x :: r, y :: s, ha, hb, h => by
    rw [val_cons, val_cons] at h
    have h1 := ha.1.cons.1
    have h2 := hb.1.cons.1
    have e : x = y := by omega
    subst e
    rw [Can.uniq ha.tail hb.tail (by omega)]
def limbsN : Nat → List Int
  | 0 => []
  | n + 1 => (((n + 1) % 4294967296 : Nat) : Int) :: limbsN ((n + 1) / 4294967296)
termination_by n => n
decreasing_by omega
theorem limbsN_can : ∀ n : Nat, Can (limbsN n) ∧ val (limbsN n) = n := by
  intro n
  induction n using Nat.strongRecOn with
  | ind n ih =>
    cases n with
    | zero => rw [limbsN]; exact ⟨Can.nil, rfl⟩
    | succ n =>
      obtain ⟨hc, hv⟩ := ih ((n + 1) / 4294967296) (by omega)
      rw [limbsN]
      refine ⟨⟨Lim.mk (by omega) (by omega) hc.1, .inr ?_⟩, by rw [val_cons, hv]; omega⟩
      by_cases h0 : limbsN ((n + 1) / 4294967296) = []
      · rw [h0]
        rw [h0, val_nil] at hv
        rw [at_nat]
        simp only [List.length_cons, List.length_nil, Nat.add_sub_cancel]
        show (((n + 1) % 4294967296 : Nat) : Int) ≠ 0
        omega
      · rcases hc.2 with e | e
        · exact absurd e h0
        · have := List.length_pos_iff.2 h0
          obtain ⟨k, hk⟩ : ∃ k, (limbsN ((n + 1) / 4294967296)).length = k + 1 := ⟨(limbsN ((n + 1) / 4294967296)).length - 1, by omega⟩
          rw [hk] at e
          rw [List.length_cons, hk]
          simp only [Nat.add_sub_cancel] at e ⊢
          rw [at_nat] at e ⊢
          simpa using e
def limbs (v : Int) : List Int := limbsN v.toNat
theorem limbs_can (v : Int) : Can (limbs v) := (limbsN_can _).1
theorem limbs_val {v : Int} (h : 0 ≤ v) : val (limbs v) = v := by unfold limbs; rw [(limbsN_can _).2]; omega
theorem limbs_lim (v : Int) : Lim (limbs v) := (limbs_can v).1
theorem Can.eq {l : List Int} (h : Can l) {v : Int} (hv : val l = v) : l = limbs v := by
  have := val_bd h.1
  exact h.uniq (limbs_can v) (by rw [limbs_val (by omega)]; exact hv)
theorem limbs_zero : limbs 0 = [] := ((Can.nil).eq rfl).symm
theorem limbs_nil {v : Int} (h : 0 ≤ v) (hl : limbs v = []) : v = 0 := by
  have := limbs_val h
  rw [hl] at this
  exact this.symm
theorem cut_can {l : List Int} (h : Lim l) {n : Nat} (hn : n ≤ l.length) (hz : ∀ j : Nat, n ≤ j → j < l.length → at' l j = 0) (ht : n = 0 ∨ at' l ((n - 1 : Nat) : Int) ≠ 0) : l.take n = limbs (val l) := by
  have hv : val (l.drop n) = 0 := by
    have : l.drop n = List.replicate (l.length - n) 0 := by
      apply List.ext_getElem
      · simp
      · intro i h1 h2
        simp only [List.length_drop] at h1
        rw [List.getElem_drop, List.getElem_replicate, ← at_get (by omega)]
        exact hz (n + i) (by omega) (by omega)
    rw [this, val_zeros]
  refine Can.eq ⟨h.take n, ?_⟩ (by rw [val_split l hn, hv]; omega)
  rcases ht with rfl | ht
  · left; simp
  · by_cases h0 : n = 0
    · left; subst h0; simp
    · right
      rw [List.length_take, Nat.min_eq_left hn, at_take (by omega)]
      exact ht
theorem Can.limbs {l : List Int} (h : Can l) : limbs (val l) = l := (h.eq rfl).symm
attribute [irreducible] limbs
end Go.Proofs.YtcgplgpdcfocpaaDoor.Big
end
section
set_option linter.unusedVariables false
set_option linter.unusedSimpArgs false
namespace Go.Proofs.YtcgplgpdcfocpaaDoor.Big
open Go Go.Proofs.YtcgplgpdcfocpaaDoor.Eng
theorem p2_pos (k : Nat) : (0 : Int) < 2 ^ k := Int.pow_pos (by decide)
theorem p2_mono {a b : Nat} (h : a ≤ b) : (2 : Int) ^ a ≤ 2 ^ b := by
  obtain ⟨d, rfl⟩ := Nat.exists_eq_add_of_le h
  rw [Int.pow_add]
  have h1 := p2_pos a
  have h2 := p2_pos d
  have := Int.mul_le_mul_of_nonneg_left (show (1 : Int) ≤ 2 ^ d by omega) (show (0 : Int) ≤ 2 ^ a by omega)
  omega
theorem p2_lt {a b : Nat} (h : (2 : Int) ^ a < 2 ^ b) : a < b := by
  by_cases hab : a < b
  · exact hab
  · have := p2_mono (show b ≤ a by omega)
    omega
def bl (v : Int) : Nat := if v ≤ 0 then 0 else Nat.log2 v.toNat + 1
theorem bl_zero : bl 0 = 0 := rfl
theorem bl_pos {v : Int} (h : 0 < v) : ∃ k : Nat, bl v = k + 1 ∧ (2 : Int) ^ k ≤ v ∧ v < 2 ^ (k + 1) := by
  refine ⟨Nat.log2 v.toNat, by unfold bl; rw [if_neg (by omega)], ?_, ?_⟩
  · have := Nat.log2_self_le (n := v.toNat) (by omega)
    have h2 : ((2 ^ Nat.log2 v.toNat : Nat) : Int) ≤ (v.toNat : Nat) := by exact_mod_cast this
    rw [Int.natCast_pow] at h2
    have : ((2 : Nat) : Int) = 2 := rfl
    rw [this] at h2
    omega
  · have := Nat.lt_log2_self (n := v.toNat)
    have h2 : ((v.toNat : Nat) : Int) < ((2 ^ (Nat.log2 v.toNat + 1) : Nat) : Int) := by exact_mod_cast this
    rw [Int.natCast_pow] at h2
    have : ((2 : Nat) : Int) = 2 := rfl
    rw [this] at h2
    omega
theorem bl_of {v : Int} {k : Nat} (h1 : (2 : Int) ^ k ≤ v) (h2 : v < 2 ^ (k + 1)) : bl v = k + 1 := by
  have := p2_pos k
  obtain ⟨j, hj, h3, h4⟩ := bl_pos (v := v) (by omega)
  have a := p2_lt (a := k) (b := j + 1) (by omega)
  have b := p2_lt (a := j) (b := k + 1) (by omega)
  omega
theorem bl_le {v : Int} (h0 : 0 ≤ v) {k : Nat} : bl v ≤ k ↔ v < 2 ^ k := by
  by_cases hv : v = 0
  · subst hv
    have := p2_pos k
    rw [bl_zero]
    exact ⟨fun _ => this, fun _ => Nat.zero_le _⟩
  · obtain ⟨j, hj, h3, h4⟩ := bl_pos (v := v) (by omega)
    rw [hj]
    constructor
    · intro h
      have := p2_mono h
      omega
    · intro h
      have := p2_lt (a := j) (b := k) (by omega)
      omega
theorem bl_mul {v u : Int} {k : Nat} (hu : 0 < u) (h1 : u * 2 ^ k ≤ v) (h2 : v < (u + 1) * 2 ^ k) : bl v = k + bl u := by
  obtain ⟨j, hj, h3, h4⟩ := bl_pos hu
  have hk := p2_pos k
  rw [hj, show k + (j + 1) = (j + k) + 1 by omega]
  refine bl_of ?_ ?_
  · rw [Int.pow_add]
    have := Int.mul_le_mul_of_nonneg_right h3 (show (0 : Int) ≤ 2 ^ k by omega)
    omega
  · rw [show j + k + 1 = (j + 1) + k by omega, Int.pow_add]
    have := Int.mul_le_mul_of_nonneg_right (show u + 1 ≤ 2 ^ (j + 1) by omega) (show (0 : Int) ≤ 2 ^ k by omega)
    omega
theorem bl_div {v : Int} {k : Nat} (h : (2 : Int) ^ k ≤ v) : bl v = k + bl (v / 2 ^ k) := by
  have hk := p2_pos k
  have h1 := Int.mul_ediv_add_emod v (2 ^ k)
  have h2 := Int.emod_nonneg v (show (2 : Int) ^ k ≠ 0 by omega)
  have h3 := Int.emod_lt_of_pos v hk
  refine bl_mul ?_ ?_ ?_
  · have := Int.le_ediv_of_mul_le hk (show 1 * 2 ^ k ≤ v by omega)
    omega
  · grind
  · grind
theorem pw_p2 (k : Nat) : pw k = 2 ^ (32 * k) := by
  induction k with
  | zero => rw [pw_zero]; rfl
  | succ k ih => rw [pw_succ, ih, show 32 * (k + 1) = 32 * k + 32 by omega, Int.pow_add]; rfl
theorem bl_val {l : List Int} (h : Lim l) {k : Nat} (hk : l.length = k + 1) (ht : at' l k ≠ 0) : bl (val l) = 32 * k + bl (at' l k) := by
  have h0 : l ≠ [] := by rintro rfl; simp at hk
  have hv : val l = val (l.take k) + at' l k * pw k := by
    rw [← val_take_succ (by omega), ← hk, List.take_length]
  have h1 := h.at k
  have h2 := val_bd (h.take k)
  rw [List.length_take, Nat.min_eq_left (by omega)] at h2
  rw [pw_p2] at hv h2
  refine bl_mul (by omega) (by omega) (by grind)
def lenTab : ByteArray := ⟨#[0, 1, 2, 2, 3, 3, 3, 3, 4, 4, 4, 4, 4, 4, 4, 4, 5, 5, 5, 5, 5, 5, 5, 5, 5, 5, 5, 5, 5, 5, 5, 5, 6, 6, 6, 6, 6, 6, 6, 6, 6, 6, 6, 6, 6, 6, 6, 6, 6, 6, 6, 6, 6, 6, 6, 6, 6, 6, 6, 6, 6, 6, 6, 6, 7, 7, 7, 7, 7, 7, 7, 7, 7, 7, 7, 7, 7, 7, 7, 7, 7, 7, 7, 7, 7, 7, 7, 7, 7, 7, 7, 7, 7, 7, 7, 7, 7, 7, 7, 7, 7, 7, 7, 7, 7, 7, 7, 7, 7, 7, 7, 7, 7, 7, 7, 7, 7, 7, 7, 7, 7, 7, 7, 7, 7, 7, 7, 7, 8, 8, 8, 8, 8, 8, 8, 8, 8, 8, 8, 8, 8, 8, 8, 8, 8, 8, 8, 8, 8, 8, 8, 8, 8, 8, 8, 8, 8, 8, 8, 8, 8, 8, 8, 8, 8, 8, 8, 8, 8, 8, 8, 8, 8, 8, 8, 8, 8, 8, 8, 8, 8, 8, 8, 8, 8, 8, 8, 8, 8, 8, 8, 8, 8, 8, 8, 8, 8, 8, 8, 8, 8, 8, 8, 8, 8, 8, 8, 8, 8, 8, 8, 8, 8, 8, 8, 8, 8, 8, 8, 8, 8, 8, 8, 8, 8, 8, 8, 8, 8, 8, 8, 8, 8, 8, 8, 8, 8, 8, 8, 8, 8, 8, 8, 8, 8, 8, 8, 8, 8, 8, 8, 8, 8, 8, 8, 8]⟩
theorem lenTab_all : ∀ n : Fin 256, ∃ h : n.1 < lenTab.size, (lenTab[n.1]'h).toNat = bl (n.1 : Int) := by decide +kernel
end Go.Proofs.YtcgplgpdcfocpaaDoor.Big
end
section
set_option linter.unusedVariables false
set_option linter.unusedSimpArgs false
namespace Go.Proofs.YtcgplgpdcfocpaaDoor.Spec
open Go Go.RowKit Go.Proofs Go.Proofs.YtcgplgpdcfocpaaDoor.Eng Go.Proofs.YtcgplgpdcfocpaaDoor.Code Go.Proofs.YtcgplgpdcfocpaaDoor.Big
set_option maxRecDepth 100000
attribute [local irreducible] callK S.W opsW scrW
theorem len32_spec (x : Int) (hx : 0 ≤ x ∧ x < 4294967296) (w : World) (K : Value → World → Prop)
    (hK : K (.int .i64 (bl x : Int)) w) : callK Tryd.prog 48 [.int .u32 x] w K := by
  refine call_of Tryd.func48 Code.h48 (by simp [Code.c48]) ?_
  have low : ∀ (y n : Int), 0 ≤ y → y < 256 → 0 ≤ n → n < 100 → (bl x : Int) = n + bl y → ∃ h : y.toNat < lenTab.size, K (.int .i64 (IntKind.i64.wrap (n + IntKind.i64.wrap ((lenTab[y.toNat]'h).toNat : Int)))) w := by
    intro y n h0 h1 h2 h3 e
    have hb : bl y ≤ 8 := (bl_le h0).2 (by omega)
    obtain ⟨h, e2⟩ := lenTab_all ⟨y.toNat, by omega⟩
    simp only at e2
    refine ⟨h, ?_⟩
    rw [e2, show ((y.toNat : Nat) : Int) = y by omega, w64 (n := (bl y : Int)) (by omega) (by omega), w64 (by omega) (by omega), ← e]
    exact hK
  have f256 : ∀ y : Int, 256 ≤ y → (bl y : Int) = 8 + bl (y / 256) := fun y h => by have := bl_div (v := y) (k := 8) (by omega); simp at this; omega
  have f65536 : 65536 ≤ x → (bl x : Int) = 16 + bl (x / 65536) := fun h => by have := bl_div (v := x) (k := 16) (by omega); simp at this; omega
  by_cases h1 : 65536 ≤ x
  · have := f65536 h1
    by_cases h2 : 256 ≤ x / 65536
    · have := f256 _ h2
      simp (disch := omega) only [wu64, wu32, wu8, fdiv_nn, EO, ↓EP, EQ, EM, ↓reduceIte, Int.reduceAdd, Int.reduceEq, Int.reduceLE, Int.reduceLT, Int.reduceMul, Int.reduceNeg, Int.reducePow, Int.reduceSub, Int.reduceToNat, Nat.reduceAdd, Nat.reduceEqDiff, Nat.reduceLT, Nat.reduceLeDiff, Nat.reduceMul, reduceCtorEq, Code.c48, W_join, ixsK]
      exact low _ _ (by omega) (by omega) (by omega) (by omega) (by omega)
    · simp (disch := omega) only [wu64, wu32, wu8, fdiv_nn, EO, ↓EP, EQ, EM, ↓reduceIte, Int.reduceAdd, Int.reduceEq, Int.reduceLE, Int.reduceLT, Int.reduceMul, Int.reduceNeg, Int.reducePow, Int.reduceSub, Int.reduceToNat, Nat.reduceAdd, Nat.reduceEqDiff, Nat.reduceLT, Nat.reduceLeDiff, Nat.reduceMul, reduceCtorEq, Code.c48, W_join, ixsK]
      exact low _ _ (by omega) (by omega) (by omega) (by omega) (by omega)
  · by_cases h2 : 256 ≤ x
    · have := f256 _ h2
      simp (disch := omega) only [wu64, wu32, wu8, fdiv_nn, EO, ↓EP, EQ, EM, ↓reduceIte, Int.reduceAdd, Int.reduceEq, Int.reduceLE, Int.reduceLT, Int.reduceMul, Int.reduceNeg, Int.reducePow, Int.reduceSub, Int.reduceToNat, Nat.reduceAdd, Nat.reduceEqDiff, Nat.reduceLT, Nat.reduceLeDiff, Nat.reduceMul, reduceCtorEq, Code.c48, W_join, ixsK]
      exact low _ _ (by omega) (by omega) (by omega) (by omega) (by omega)
    · simp (disch := omega) only [wu64, wu32, wu8, fdiv_nn, EO, ↓EP, EQ, EM, ↓reduceIte, Int.reduceAdd, Int.reduceEq, Int.reduceLE, Int.reduceLT, Int.reduceMul, Int.reduceNeg, Int.reducePow, Int.reduceSub, Int.reduceToNat, Nat.reduceAdd, Nat.reduceEqDiff, Nat.reduceLT, Nat.reduceLeDiff, Nat.reduceMul, reduceCtorEq, Code.c48, W_join, ixsK]
      exact low _ _ (by omega) (by omega) (by omega) (by omega) (by omega)
theorem cut_spec {w : World} {A : Option Addr} {n c : Nat} {l : List Int} (hn : l.length = n) (hl : Rd w A (nums .u32 l)) (hL : Lim l) (hc : n ≤ c) (h63 : n ≤ 4611686018427387904) (K : Value → World → Prop)
    (hK : ∀ m, m ≤ n → l.take m = limbs (val l) → m = (limbs (val l)).length → K (.slice A m c) w) : callK Tryd.prog 47 [.slice A n c] w K := by
  refine call_of Tryd.func47 Code.h47 (by simp [Code.c47]) ?_
  subst hn
  simp (disch := omega) only [EO, ↓EP, EQ, EM, ↓reduceIte, Int.reduceAdd, Int.reduceEq, Int.reduceLE, Int.reduceLT, Int.reduceMul, Int.reduceNeg, Int.reducePow, Int.reduceSub, Int.reduceToNat, Nat.reduceAdd, Nat.reduceEqDiff, Nat.reduceLT, Nat.reduceLeDiff, Nat.reduceMul, reduceCtorEq, Code.c47]
  refine loop_inv (fun t ρ w' => w' = w ∧ ρ 3 = .int .i64 t ∧ t ≤ l.length ∧ ∀ j : Nat, t ≤ j → j < l.length → at' l j = 0) l.length ⟨rfl, by simp (disch := omega) only [EO, ↓EP, EQ, EM, ↓reduceIte, Int.reduceAdd, Int.reduceEq, Int.reduceLE, Int.reduceLT, Int.reduceMul, Int.reduceNeg, Int.reducePow, Int.reduceSub, Int.reduceToNat, Nat.reduceAdd, Nat.reduceEqDiff, Nat.reduceLT, Nat.reduceLeDiff, Nat.reduceMul, reduceCtorEq], Nat.le_refl _, fun j h1 h2 => by omega⟩ ?_
  rintro t ρ w' hf ⟨rfl, h3, ht, hz⟩ N hN
  have r0 : ρ 0 = .slice A l.length c := by rw [hf 0 rfl]; simp only [↓EP, EQ, EM, ↓reduceIte, Int.reduceAdd, Int.reduceEq, Int.reduceLE, Int.reduceLT, Int.reduceMul, Int.reduceNeg, Int.reducePow, Int.reduceSub, Int.reduceToNat, Nat.reduceAdd, Nat.reduceEqDiff, Nat.reduceLT, Nat.reduceLeDiff, Nat.reduceMul, reduceCtorEq]
  clear hf
  have fin : (t = 0 ∨ at' l ((t - 1 : Nat) : Int) ≠ 0) → K (.slice A t c) w' := fun h => by
    have e := cut_can hL ht hz h
    exact hK t ht e (by rw [← e, List.length_take]; omega)
  cases t with
  | zero =>
    simp (disch := omega) only [EO, ↓EP, EQ, EM, ↓reduceIte, Int.reduceAdd, Int.reduceEq, Int.reduceLE, Int.reduceLT, Int.reduceMul, Int.reduceNeg, Int.reducePow, Int.reduceSub, Int.reduceToNat, Nat.reduceAdd, Nat.reduceEqDiff, Nat.reduceLT, Nat.reduceLeDiff, Nat.reduceMul, reduceCtorEq, h3, r0, Int.natCast_zero]
    exact fin (.inl rfl)
  | succ k =>
    obtain ⟨p, rfl, _, hp⟩ := hl.get (by rw [nums_length]; omega)
    have cp := hp.numN (j := k) (by omega)
    have e1 : ((k + 1 : Nat) : Int) - 1 = k := by omega
    by_cases he : at' l k = 0
    · simp (disch := omega) only [EO, ↓EP, EQ, EM, ↓reduceIte, Int.reduceAdd, Int.reduceEq, Int.reduceLE, Int.reduceLT, Int.reduceMul, Int.reduceNeg, Int.reducePow, Int.reduceSub, Int.reduceToNat, Nat.reduceAdd, Nat.reduceEqDiff, Nat.reduceLT, Nat.reduceLeDiff, Nat.reduceMul, reduceCtorEq, h3, r0, e1, cp, he]
      exact hN k _ _ (by omega) ⟨rfl, by simp (disch := omega) only [EO, ↓EP, EQ, EM, ↓reduceIte, Int.reduceAdd, Int.reduceEq, Int.reduceLE, Int.reduceLT, Int.reduceMul, Int.reduceNeg, Int.reducePow, Int.reduceSub, Int.reduceToNat, Nat.reduceAdd, Nat.reduceEqDiff, Nat.reduceLT, Nat.reduceLeDiff, Nat.reduceMul, reduceCtorEq], by omega, fun j h1 h2 => by
        by_cases hj : j = k
        · subst hj; exact he
        · exact hz j (by omega) h2⟩
    · have hf : (at' l k = 0) = False := eq_false he
      simp (disch := omega) only [EO, ↓EP, EQ, EM, ↓reduceIte, Int.reduceAdd, Int.reduceEq, Int.reduceLE, Int.reduceLT, Int.reduceMul, Int.reduceNeg, Int.reducePow, Int.reduceSub, Int.reduceToNat, Nat.reduceAdd, Nat.reduceEqDiff, Nat.reduceLT, Nat.reduceLeDiff, Nat.reduceMul, reduceCtorEq, h3, r0, e1, cp, hf]
      exact fin (.inr (by rw [show k + 1 - 1 = k by omega]; exact he))
end Go.Proofs.YtcgplgpdcfocpaaDoor.Spec
end
section
set_option linter.unusedVariables false
set_option linter.unusedSimpArgs false
namespace Go.Proofs.YtcgplgpdcfocpaaDoor.Spec
open Go Go.RowKit Go.Proofs Go.Proofs.YtcgplgpdcfocpaaDoor.Eng Go.Proofs.YtcgplgpdcfocpaaDoor.Code Go.Proofs.YtcgplgpdcfocpaaDoor.Big
set_option maxRecDepth 100000
attribute [local irreducible] callK S.W opsW scrW
theorem own_cut {k : IntKind} {w0 w : World} {b m n : Nat} {l l' : List Int} (hB : Blk w b (nums k l)) (hb : w0.heap.size ≤ b) (f : Fr w0 w nob) (hn : l.length = n) (hm : m ≤ n) (he : l.take m = l') : Gw k w0 w (.slice (some ⟨b, 0, none⟩) m n) l' := by
  refine ⟨.inr ⟨b, l.drop m, ?_, ?_⟩, fun x e => by cases e; exact hb, f⟩
  · rw [← he, List.length_take, List.length_drop, Nat.min_eq_left (by omega)]
    congr 1; omega
  · rw [← he, List.take_append_drop]; exact hB
end Go.Proofs.YtcgplgpdcfocpaaDoor.Spec
end
section
set_option linter.unusedVariables false
set_option linter.unusedSimpArgs false
namespace Go.Proofs.YtcgplgpdcfocpaaDoor.Spec
open Go Go.RowKit Go.Proofs Go.Proofs.YtcgplgpdcfocpaaDoor.Eng Go.Proofs.YtcgplgpdcfocpaaDoor.Code Go.Proofs.YtcgplgpdcfocpaaDoor.Big
set_option maxRecDepth 100000
attribute [local irreducible] callK S.W opsW scrW
theorem can_top {v : Int} (hv : 0 ≤ v) {k : Nat} (hk : (limbs v).length = k + 1) : at' (limbs v) k ≠ 0 ∧ bl v = 32 * k + bl (at' (limbs v) k) := by
  have hc := limbs_can v
  have h0 : at' (limbs v) k ≠ 0 := by
    rcases hc.2 with e | e
    · rw [e] at hk; simp at hk
    · rw [hk] at e; exact e
  refine ⟨h0, ?_⟩
  have := bl_val hc.1 hk h0
  rwa [limbs_val hv] at this
theorem bits_spec {w : World} {A : Option Addr} {n c : Nat} {l : List Int} (hn : l.length = n) (hl : Rd w A (nums .u32 l)) (hL : Lim l) (hc : n ≤ c) (hn' : n ≤ 1099511627776) (K : Value → World → Prop)
    (hK : K (.int .i64 (bl (val l) : Int)) w) : callK Tryd.prog 25 [.slice A n c] w K := by
  refine call_of Tryd.func25 Code.h25 (by simp [Code.c25]) ?_
  simp (disch := omega) only [EO, ↓EP, EQ, EM, ↓reduceIte, Int.reduceAdd, Int.reduceEq, Int.reduceLE, Int.reduceLT, Int.reduceMul, Int.reduceNeg, Int.reducePow, Int.reduceSub, Int.reduceToNat, Nat.reduceAdd, Nat.reduceEqDiff, Nat.reduceLT, Nat.reduceLeDiff, Nat.reduceMul, reduceCtorEq, Code.c25]
  have hv := (val_bd hL).1
  refine cut_spec hn hl hL hc (by omega) _ fun m hm he hlen => ?_
  cases m with
  | zero =>
    simp (disch := omega) only [EO, ↓EP, EQ, EM, ↓reduceIte, Int.reduceAdd, Int.reduceEq, Int.reduceLE, Int.reduceLT, Int.reduceMul, Int.reduceNeg, Int.reducePow, Int.reduceSub, Int.reduceToNat, Nat.reduceAdd, Nat.reduceEqDiff, Nat.reduceLT, Nat.reduceLeDiff, Nat.reduceMul, reduceCtorEq, Int.natCast_zero]
    have e : val l = 0 := limbs_nil hv (List.length_eq_zero_iff.1 hlen.symm)
    rw [e, bl_zero] at hK
    exact hK
  | succ k =>
    obtain ⟨h0, hb⟩ := can_top hv hlen.symm
    have hr := hl.take (k + 1)
    rw [he] at hr
    obtain ⟨p, rfl, _, hp⟩ := hr.get (by rw [nums_length]; omega)
    have cp := hp.numN (j := k) (by omega)
    have e1 : ((k + 1 : Nat) : Int) - 1 = k := by omega
    have bt := (limbs_lim (val l)).at k
    have hb32 : bl (at' (limbs (val l)) k) ≤ 32 := (bl_le bt.1).2 (by omega)
    simp (disch := omega) only [EO, ↓EP, EQ, EM, ↓reduceIte, Int.reduceAdd, Int.reduceEq, Int.reduceLE, Int.reduceLT, Int.reduceMul, Int.reduceNeg, Int.reducePow, Int.reduceSub, Int.reduceToNat, Nat.reduceAdd, Nat.reduceEqDiff, Nat.reduceLT, Nat.reduceLeDiff, Nat.reduceMul, reduceCtorEq, e1, cp]
    refine len32_spec _ bt _ _ ?_
    have e2 : (32 : Int) * k + bl (at' (limbs (val l)) k) = (bl (val l) : Int) := by rw [hb]; push_cast; rfl
    simp (disch := omega) only [EO, ↓EP, EQ, EM, ↓reduceIte, Int.reduceAdd, Int.reduceEq, Int.reduceLE, Int.reduceLT, Int.reduceMul, Int.reduceNeg, Int.reducePow, Int.reduceSub, Int.reduceToNat, Nat.reduceAdd, Nat.reduceEqDiff, Nat.reduceLT, Nat.reduceLeDiff, Nat.reduceMul, reduceCtorEq, e2]
    exact hK
end Go.Proofs.YtcgplgpdcfocpaaDoor.Spec
end
section
set_option linter.unusedVariables false
set_option linter.unusedSimpArgs false
namespace Go.Proofs.YtcgplgpdcfocpaaDoor.Spec
open Go Go.RowKit Go.Proofs Go.Proofs.YtcgplgpdcfocpaaDoor.Eng Go.Proofs.YtcgplgpdcfocpaaDoor.Code Go.Proofs.YtcgplgpdcfocpaaDoor.Big
set_option maxRecDepth 100000
attribute [local irreducible] callK S.W opsW scrW
end Go.Proofs.YtcgplgpdcfocpaaDoor.Spec
end
section
set_option linter.unusedVariables false
set_option linter.unusedSimpArgs false
namespace Go.Proofs.YtcgplgpdcfocpaaDoor.Spec
open Go Go.RowKit Go.Proofs Go.Proofs.YtcgplgpdcfocpaaDoor.Eng Go.Proofs.YtcgplgpdcfocpaaDoor.Code Go.Proofs.YtcgplgpdcfocpaaDoor.Big
set_option maxRecDepth 100000
attribute [local irreducible] callK S.W opsW scrW
end Go.Proofs.YtcgplgpdcfocpaaDoor.Spec
end
section
set_option linter.unusedVariables false
set_option linter.unusedSimpArgs false
namespace Go.Proofs.YtcgplgpdcfocpaaDoor.Spec
open Go Go.RowKit Go.Proofs Go.Proofs.YtcgplgpdcfocpaaDoor.Eng Go.Proofs.YtcgplgpdcfocpaaDoor.Code Go.Proofs.YtcgplgpdcfocpaaDoor.Big
set_option maxRecDepth 100000
attribute [local irreducible] callK S.W opsW scrW
end Go.Proofs.YtcgplgpdcfocpaaDoor.Spec
end
section
set_option linter.unusedVariables false
set_option linter.unusedSimpArgs false
namespace Go.Proofs.YtcgplgpdcfocpaaDoor.Spec
open Go Go.RowKit Go.Proofs Go.Proofs.YtcgplgpdcfocpaaDoor.Eng Go.Proofs.YtcgplgpdcfocpaaDoor.Code Go.Proofs.YtcgplgpdcfocpaaDoor.Big
set_option maxRecDepth 100000
attribute [local irreducible] callK S.W opsW scrW
end Go.Proofs.YtcgplgpdcfocpaaDoor.Spec
end
section
set_option linter.unusedVariables false
set_option linter.unusedSimpArgs false
namespace Go.Proofs.YtcgplgpdcfocpaaDoor.Spec
open Go Go.RowKit Go.Proofs Go.Proofs.YtcgplgpdcfocpaaDoor.Eng Go.Proofs.YtcgplgpdcfocpaaDoor.Code Go.Proofs.YtcgplgpdcfocpaaDoor.Big
set_option maxRecDepth 100000
attribute [local irreducible] callK S.W opsW scrW
end Go.Proofs.YtcgplgpdcfocpaaDoor.Spec
end
section
set_option linter.unusedVariables false
set_option linter.unusedSimpArgs false
namespace Go.Proofs.YtcgplgpdcfocpaaDoor.Spec
open Go Go.RowKit Go.Proofs Go.Proofs.YtcgplgpdcfocpaaDoor.Eng Go.Proofs.YtcgplgpdcfocpaaDoor.Code Go.Proofs.YtcgplgpdcfocpaaDoor.Big
set_option maxRecDepth 100000
attribute [local irreducible] callK S.W opsW scrW
structure PD (w0 w : World) (ub vb qb : Nat) (us vs qs : List Int) : Prop where
  bu : Blk w ub (nums .u32 us)
  bv : Blk w vb (nums .u32 vs)
  bq : Blk w qb (nums .u32 qs)
  fr : Fr w0 w nob
theorem PD.nb {w0 w w' : World} {ub vb qb : Nat} {us vs qs : List Int} (h : PD w0 w ub vb qb us vs qs) (f : Fr w w' nob) : PD w0 w' ub vb qb us vs qs :=
  ⟨h.bu.nb f, h.bv.nb f, h.bq.nb f, h.fr.nb f⟩
end Go.Proofs.YtcgplgpdcfocpaaDoor.Spec
end
section
set_option linter.unusedVariables false
set_option linter.unusedSimpArgs false
namespace Go.Proofs.YtcgplgpdcfocpaaDoor.Big
open Go Go.Proofs.YtcgplgpdcfocpaaDoor.Eng
def leb : List Int → Int
  | [] => 0
  | x :: r => x + 256 * leb r
def Byt (l : List Int) : Prop := ∀ x ∈ l, 0 ≤ x ∧ x < 256
theorem Byt.nil : Byt [] := fun x h => by cases h
theorem Byt.cons {x : Int} {r : List Int} (h : Byt (x :: r)) : (0 ≤ x ∧ x < 256) ∧ Byt r := ⟨h x (by simp), fun y hy => h y (by simp [hy])⟩
theorem Byt.mk {x : Int} {r : List Int} (h0 : 0 ≤ x) (h1 : x < 256) (h : Byt r) : Byt (x :: r) := fun y hy => by
  rcases List.mem_cons.1 hy with rfl | hy
  · exact ⟨h0, h1⟩
  · exact h y hy
theorem Byt.app {a b : List Int} (ha : Byt a) (hb : Byt b) : Byt (a ++ b) := fun x hx => by
  rcases List.mem_append.1 hx with h | h
  · exact ha x h
  · exact hb x h
theorem Byt.take {l : List Int} (h : Byt l) (n : Nat) : Byt (l.take n) := fun x hx => h x (List.mem_of_mem_take hx)
theorem Byt.drop {l : List Int} (h : Byt l) (n : Nat) : Byt (l.drop n) := fun x hx => h x (List.mem_of_mem_drop hx)
theorem Byt.set {l : List Int} (h : Byt l) (n : Nat) {x : Int} (h0 : 0 ≤ x) (h1 : x < 256) : Byt (l.set n x) := fun y hy => by
  rcases List.mem_or_eq_of_mem_set hy with h' | rfl
  · exact h y h'
  · exact ⟨h0, h1⟩
theorem Byt.at {l : List Int} (h : Byt l) (i : Int) : 0 ≤ at' l i ∧ at' l i < 256 := by
  unfold at'
  rw [List.getD_eq_getElem?_getD]
  cases e : l[i.toNat]? with
  | none => simp
  | some x => exact h x (List.mem_of_getElem? e)
def bv (l : List Int) : Int := leb l.reverse
end Go.Proofs.YtcgplgpdcfocpaaDoor.Big
end
section
set_option linter.unusedVariables false
set_option linter.unusedSimpArgs false
namespace Go.Proofs.YtcgplgpdcfocpaaDoor.Big
open Go Go.Proofs.YtcgplgpdcfocpaaDoor.Eng
theorem limbs_one : limbs 1 = [1] := by
  have : Can [1] := ⟨fun x h => by simp at h; omega, .inr (by decide)⟩
  exact (this.eq (by decide)).symm
end Go.Proofs.YtcgplgpdcfocpaaDoor.Big
end
section
set_option linter.unusedVariables false
set_option linter.unusedSimpArgs false
namespace Go.Proofs.YtcgplgpdcfocpaaDoor.Spec
open Go Go.RowKit Go.Proofs Go.Proofs.YtcgplgpdcfocpaaDoor.Eng Go.Proofs.YtcgplgpdcfocpaaDoor.Code Go.Proofs.YtcgplgpdcfocpaaDoor.Big
set_option maxRecDepth 100000
attribute [local irreducible] callK S.W opsW scrW
def Nv (w : World) (v : Value) (x : Int) : Prop := 0 ≤ x ∧ Vw .u32 w v (limbs x)
theorem Nv.nb {w w' : World} {v : Value} {x : Int} (h : Nv w v x) (f : Fr w w' nob) : Nv w' v x := ⟨h.1, h.2.nb f⟩
theorem Nv.nil (w : World) : Nv w (.slice none 0 0) 0 := ⟨Int.le_refl _, by rw [limbs_zero]; exact Vw.nil _ _⟩
theorem Nv.one {w w' : World} (h : New w w' (nums .u32 [1])) : Nv w' (.slice (some ⟨w.heap.size, 0, none⟩) 1 1) 1 := ⟨by decide, by rw [limbs_one]; exact h.vw rfl⟩
theorem bits_vw {w : World} {va : Value} {l : List Int} (ha : Vw .u32 w va l) (hL : Lim l) (h : l.length ≤ 1099511627776) (K : Value → World → Prop)
    (hK : K (.int .i64 (bl (val l) : Int)) w) : callK Tryd.prog 25 [va] w K := by
  obtain ⟨A, c, rfl, hc, hr⟩ := ha
  exact bits_spec rfl hr hL hc h K hK
end Go.Proofs.YtcgplgpdcfocpaaDoor.Spec
end
section
set_option linter.unusedVariables false
set_option linter.unusedSimpArgs false
namespace Go.Proofs.YtcgplgpdcfocpaaDoor.Spec
open Go Go.RowKit Go.Proofs Go.Proofs.YtcgplgpdcfocpaaDoor.Eng Go.Proofs.YtcgplgpdcfocpaaDoor.Code Go.Proofs.YtcgplgpdcfocpaaDoor.Big
set_option maxRecDepth 100000
attribute [local irreducible] callK S.W opsW scrW
end Go.Proofs.YtcgplgpdcfocpaaDoor.Spec
end
section
set_option linter.unusedVariables false
set_option linter.unusedSimpArgs false
namespace Go.Proofs.YtcgplgpdcfocpaaDoor.Der
open Go Go.RowKit Go.Proofs Go.Proofs.YtcgplgpdcfocpaaDoor.Eng Go.Proofs.YtcgplgpdcfocpaaDoor.Code
set_option maxRecDepth 100000
attribute [local irreducible] callK S.W opsW scrW scrT
def stripZ : List Int → List Int
  | [] => []
  | x :: r => if x = 0 then stripZ r else x :: r
theorem eq_z0 (K : Value → Prop) : binK .eql (.string ⟨#[0]⟩) (.string ⟨#[]⟩) K = K (.bool false) := by
  have : ((⟨#[0]⟩ : ByteArray).toList == (⟨#[]⟩ : ByteArray).toList) = false := by decide +kernel
  rw [b_seql, this]
theorem ix_z (K : Value → Prop) : ixsK ⟨#[0]⟩ 0 K = K (.int .u8 0) := propext ⟨fun h => h.2.2, fun h => ⟨by decide, by decide, h⟩⟩
theorem sz_z : (⟨#[0]⟩ : ByteArray).size = 1 := rfl
end Go.Proofs.YtcgplgpdcfocpaaDoor.Der
end
section
set_option linter.unusedVariables false
set_option linter.unusedSimpArgs false
namespace Go.Proofs.YtcgplgpdcfocpaaDoor.Der
open Go Go.RowKit Go.Proofs Go.Proofs.YtcgplgpdcfocpaaDoor.Eng Go.Proofs.YtcgplgpdcfocpaaDoor.Code
set_option maxRecDepth 100000
attribute [local irreducible] callK S.W opsW scrW scrT
open Go.Sort
end Go.Proofs.YtcgplgpdcfocpaaDoor.Der
end
section
set_option linter.unusedVariables false
set_option linter.unusedSimpArgs false
namespace Go.Proofs.YtcgplgpdcfocpaaDoor.Der
open Go Go.RowKit Go.Proofs Go.Proofs.YtcgplgpdcfocpaaDoor.Eng Go.Proofs.YtcgplgpdcfocpaaDoor.Code
set_option maxRecDepth 100000
attribute [local irreducible] callK S.W opsW scrW scrT
theorem satA_bd {v : Int} (h : 0 ≤ v) : 0 ≤ satA v ∧ satA v ≤ 1099511627776 := by unfold satA; split <;> omega
end Go.Proofs.YtcgplgpdcfocpaaDoor.Der
end
section
set_option linter.unusedVariables false
set_option linter.unusedSimpArgs false
namespace Go.Proofs.YtcgplgpdcfocpaaDoor.Der
open Go Go.RowKit Go.Proofs Go.Proofs.YtcgplgpdcfocpaaDoor.Eng Go.Proofs.YtcgplgpdcfocpaaDoor.Code
set_option maxRecDepth 100000
attribute [local irreducible] callK S.W opsW scrW scrT
theorem u64_and127 {a : Int} (h : 0 ≤ a) (h' : a < 18446744073709551616) : bits .and .u64 a 127 = a % 128 := by
  obtain ⟨a, rfl⟩ := Int.eq_ofNat_of_zero_le h
  have ea : (BitVec.ofInt 64 (a : Int)).toNat = a := by simp; omega
  have eb : (BitVec.ofInt 64 (127 : Int)).toNat = 127 := by decide
  show IntKind.u64.wrap ((BitVec.ofInt 64 (a : Int) &&& BitVec.ofInt 64 (127 : Int)).toNat : Int) = _
  rw [BitVec.toNat_and, ea, eb, show (127 : Nat) = 2 ^ 7 - 1 by rfl, Nat.and_two_pow_sub_one_eq_mod]
  rw [wu64 (by omega) (by omega)]
  omega
theorem sevenHi_z : ∀ f, sevenHi f 0 = []
  | 0 => rfl
  | f + 1 => by rw [sevenHi, if_pos rfl]
theorem sevenHi_len : ∀ f v, (sevenHi f v).length ≤ f
  | 0, v => by simp [sevenHi]
  | f + 1, v => by
    rw [sevenHi]
    split
    · simp
    · have := sevenHi_len f (v / 128)
      simp; omega
theorem seven_len (v : Nat) : (sevenR v).length ≤ 11 := by
  have := sevenHi_len 10 (v / 128)
  simp [sevenR]; omega
theorem seven_vw {w : World} {v : Nat} (hv : v < 9223372036854775808) (K : Value → World → Prop)
    (hK : ∀ v' w', Gw .u8 w w' v' (sevenR v) → K v' w') : callK Tryd.prog 86 [.int .u64 v] w K := by
  refine call_of Tryd.func86 Code.h86 (by simp [Code.c86]) ?_
  have e0 := u64_and127 (a := (v : Int)) (by omega) (by omega)
  have e1 : IntKind.u8.wrap ((v : Int) % 128) = (v : Int) % 128 := wu8 (by omega) (by omega)
  simp (disch := omega) only [wu64, wu32, wu8, fdiv_nn, EO, ↓EP, EQ, EM, ↓reduceIte, Int.reduceAdd, Int.reduceEq, Int.reduceLE, Int.reduceLT, Int.reduceMul, Int.reduceNeg, Int.reducePow, Int.reduceSub, Int.reduceToNat, Nat.reduceAdd, Nat.reduceEqDiff, Nat.reduceLT, Nat.reduceLeDiff, Nat.reduceMul, reduceCtorEq, Code.c86, e0, e1]
  refine bsl1 fun w1 n1 => ?_
  have g1 : Gw .u8 w w1 (.slice (some ⟨w.heap.size, 0, none⟩) 1 1) [(v : Int) % 128] := ⟨n1.sl, fun b e => by cases e; exact Nat.le_refl _, n1.fr nob⟩
  simp (disch := omega) only [wu64, wu32, wu8, fdiv_nn, EO, ↓EP, EQ, EM, ↓reduceIte, Int.reduceAdd, Int.reduceEq, Int.reduceLE, Int.reduceLT, Int.reduceMul, Int.reduceNeg, Int.reducePow, Int.reduceSub, Int.reduceToNat, Nat.reduceAdd, Nat.reduceEqDiff, Nat.reduceLT, Nat.reduceLeDiff, Nat.reduceMul, reduceCtorEq]
  refine loop_inv (fun t ρ w' => ∃ (x f : Nat) (B : Value) (l : List Int), ρ 0 = .int .u64 x ∧ ρ 3 = B ∧ Gw .u8 w w' B l ∧ t = x ∧ x < 128 ^ f ∧ f ≤ 10 ∧ l.length + f ≤ 11 ∧ x < 9223372036854775808 ∧ sevenHi f x ++ l = sevenR v) _ ⟨v / 128, 10, _, _, by simp (disch := omega) only [wu64, wu32, wu8, fdiv_nn, EO, ↓EP, EQ, EM, ↓reduceIte, Int.reduceAdd, Int.reduceEq, Int.reduceLE, Int.reduceLT, Int.reduceMul, Int.reduceNeg, Int.reducePow, Int.reduceSub, Int.reduceToNat, Nat.reduceAdd, Nat.reduceEqDiff, Nat.reduceLT, Nat.reduceLeDiff, Nat.reduceMul, reduceCtorEq, Int.natCast_ediv], by simp (disch := omega) only [wu64, wu32, wu8, fdiv_nn, EO, ↓EP, EQ, EM, ↓reduceIte, Int.reduceAdd, Int.reduceEq, Int.reduceLE, Int.reduceLT, Int.reduceMul, Int.reduceNeg, Int.reducePow, Int.reduceSub, Int.reduceToNat, Nat.reduceAdd, Nat.reduceEqDiff, Nat.reduceLT, Nat.reduceLeDiff, Nat.reduceMul, reduceCtorEq], g1, rfl, by omega, by omega, by simp, by omega, by simp [sevenR]⟩ ?_
  rintro t ρ w2 hf ⟨x, f, B, l, h0, h3, g, ht, hx, hf10, hl, hx63, hs⟩ N hN
  clear hf
  obtain ⟨BA, bc, rfl, hbc, hBr⟩ := readn g.sl rfl
  by_cases hx0 : x = 0
  · rw [hx0] at h0 hs
    rw [sevenHi_z, List.nil_append] at hs
    subst hs
    simp (disch := omega) only [wu64, wu32, wu8, fdiv_nn, EO, ↓EP, EQ, EM, ↓reduceIte, Int.reduceAdd, Int.reduceEq, Int.reduceLE, Int.reduceLT, Int.reduceMul, Int.reduceNeg, Int.reducePow, Int.reduceSub, Int.reduceToNat, Nat.reduceAdd, Nat.reduceEqDiff, Nat.reduceLT, Nat.reduceLeDiff, Nat.reduceMul, reduceCtorEq, h0, h3, Int.natCast_zero]
    exact hK _ w2 g
  · obtain ⟨f, rfl⟩ : ∃ g, f = g + 1 := by
      cases f with
      | zero => simp at hx; omega
      | succ f => exact ⟨f, rfl⟩
    have ewb : IntKind.u8.wrap (x : Int) = ((x % 256 : Nat) : Int) := by rw [wu8_mod]; omega
    have eor : bits .or .u8 ((x % 256 : Nat) : Int) 128 = ((x % 128 + 128 : Nat) : Int) := by
      rw [d8_or128 ⟨by omega, by omega⟩]; omega
    rw [Nat.pow_succ] at hx
    rw [sevenHi, if_neg hx0] at hs
    simp (disch := omega) only [wu64, wu32, wu8, fdiv_nn, EO, ↓EP, EQ, EM, ↓reduceIte, Int.reduceAdd, Int.reduceEq, Int.reduceLE, Int.reduceLT, Int.reduceMul, Int.reduceNeg, Int.reducePow, Int.reduceSub, Int.reduceToNat, Nat.reduceAdd, Nat.reduceEqDiff, Nat.reduceLT, Nat.reduceLeDiff, Nat.reduceMul, reduceCtorEq, h0, h3, ewb, eor]
    refine bsl1 fun w3 n3 => ?_
    simp (disch := omega) only [wu64, wu32, wu8, fdiv_nn, EO, ↓EP, EQ, EM, ↓reduceIte, Int.reduceAdd, Int.reduceEq, Int.reduceLE, Int.reduceLT, Int.reduceMul, Int.reduceNeg, Int.reducePow, Int.reduceSub, Int.reduceToNat, Nat.reduceAdd, Nat.reduceEqDiff, Nat.reduceLT, Nat.reduceLeDiff, Nat.reduceMul, reduceCtorEq, h3]
    refine app_num n3.sl rfl (hBr.nb (n3.fr nob)) (by simp; omega) (by omega) fun v4 w4 a4 => ?_
    have g4 : Gw .u8 w w4 v4 (((x % 128 + 128 : Nat) : Int) :: l) := by
      have := (⟨n3.sl, fun b e => by cases e; exact Nat.le_refl _, n3.fr nob⟩ : Gw .u8 w2 w3 (.slice (some ⟨w2.heap.size, 0, none⟩) 1 1) [((x % 128 + 128 : Nat) : Int)]).apd a4
      exact this.from g.fr
    simp (disch := omega) only [wu64, wu32, wu8, fdiv_nn, EO, ↓EP, EQ, EM, ↓reduceIte, Int.reduceAdd, Int.reduceEq, Int.reduceLE, Int.reduceLT, Int.reduceMul, Int.reduceNeg, Int.reducePow, Int.reduceSub, Int.reduceToNat, Nat.reduceAdd, Nat.reduceEqDiff, Nat.reduceLT, Nat.reduceLeDiff, Nat.reduceMul, reduceCtorEq, h0]
    exact hN (x / 128) _ _ (by omega) ⟨x / 128, f, v4, _, by simp (disch := omega) only [wu64, wu32, wu8, fdiv_nn, EO, ↓EP, EQ, EM, ↓reduceIte, Int.reduceAdd, Int.reduceEq, Int.reduceLE, Int.reduceLT, Int.reduceMul, Int.reduceNeg, Int.reducePow, Int.reduceSub, Int.reduceToNat, Nat.reduceAdd, Nat.reduceEqDiff, Nat.reduceLT, Nat.reduceLeDiff, Nat.reduceMul, reduceCtorEq, h0, Int.natCast_ediv], by simp (disch := omega) only [wu64, wu32, wu8, fdiv_nn, EO, ↓EP, EQ, EM, ↓reduceIte, Int.reduceAdd, Int.reduceEq, Int.reduceLE, Int.reduceLT, Int.reduceMul, Int.reduceNeg, Int.reducePow, Int.reduceSub, Int.reduceToNat, Nat.reduceAdd, Nat.reduceEqDiff, Nat.reduceLT, Nat.reduceLeDiff, Nat.reduceMul, reduceCtorEq], g4, rfl, by omega, by omega, by simp at hl ⊢; omega, by omega, by rw [← hs]; simp⟩
end Go.Proofs.YtcgplgpdcfocpaaDoor.Der
end
section
set_option linter.unusedVariables false
set_option linter.unusedSimpArgs false
namespace Go.Proofs.YtcgplgpdcfocpaaDoor.Der
open Go Go.RowKit Go.Proofs Go.Proofs.YtcgplgpdcfocpaaDoor.Eng Go.Proofs.YtcgplgpdcfocpaaDoor.Code
set_option maxRecDepth 100000
attribute [local irreducible] callK S.W opsW scrW scrT
structure LV (w : World) (X : Value) (ls : List (List Int)) : Prop where
  ex : ∃ A c vs, X = .slice A ls.length c ∧ ls.length ≤ c ∧ Rd w A vs ∧ vs.length = ls.length ∧ ∀ (i : Nat) v l, vs[i]? = some v → ls[i]? = some l → Vw .u8 w v l
theorem LV.nb {w w' : World} {X : Value} {ls : List (List Int)} (h : LV w X ls) (f : Fr w w' nob) : LV w' X ls := by
  obtain ⟨A, c, vs, e, hc, hr, hv, he⟩ := h.ex
  refine ⟨A, c, vs, e, hc, hr.nb f, hv, fun i v l h1 h2 => ?_⟩
  obtain ⟨B, d, e2, hd, hB⟩ := he i v l h1 h2
  exact ⟨B, d, e2, hd, hB.nb f⟩
theorem LV.at {w : World} {A : Option Addr} {n c : Nat} {ls : List (List Int)} (h : LV w (.slice A n c) ls) {i : Nat} (hi : i < ls.length) : ∃ ad dA dc, A = some ad ∧ n = ls.length ∧ w.cell? (ad.add i) = some (.slice dA ls[i].length dc) ∧ ls[i].length ≤ dc ∧ Rd w dA (nums .u8 ls[i]) := by
  obtain ⟨A', c', vs, e, hc, hr, hv, he⟩ := h.ex
  cases e
  have hiv : i < vs.length := by omega
  obtain ⟨ad, ea, hcell⟩ := hr.at (List.getElem?_eq_getElem hiv)
  obtain ⟨dA, dc, e2, hdc, hdr⟩ := he i vs[i] ls[i] (List.getElem?_eq_getElem hiv) (List.getElem?_eq_getElem hi)
  rw [e2] at hcell
  exact ⟨ad, dA, dc, ea, rfl, hcell, hdc, hdr⟩
def tot (ls : List (List Int)) (j : Nat) : Nat := ((ls.take j).map List.length).sum
theorem take_one {α : Type} {ls : List α} {j : Nat} (h : j < ls.length) : ls.take (j + 1) = ls.take j ++ [ls[j]] := by
  rw [List.take_add_one, List.getElem?_eq_getElem h]; rfl
theorem sum_app (a b : List Nat) : (a ++ b).sum = a.sum + b.sum := by
  induction a with
  | nil => simp
  | cons x r ih => simp only [List.cons_append, List.sum_cons, ih]; omega
theorem tot_succ {ls : List (List Int)} {j : Nat} (h : j < ls.length) : tot ls (j + 1) = tot ls j + ls[j].length := by
  unfold tot
  rw [take_one h, List.map_append, sum_app]
  simp only [List.map_cons, List.map_nil, List.sum_cons, List.sum_nil, Nat.add_zero]
theorem tot_all (ls : List (List Int)) : tot ls ls.length = (ls.map List.length).sum := by simp [tot]
theorem tot_le (ls : List (List Int)) (j : Nat) : tot ls j ≤ (ls.map List.length).sum := by
  have : (ls.map List.length).sum = tot ls j + ((ls.drop j).map List.length).sum := by
    unfold tot
    rw [← sum_app, ← List.map_append, List.take_append_drop]
  omega
theorem flat_succ {ls : List (List Int)} {j : Nat} (h : j < ls.length) : (ls.take (j + 1)).flatten = (ls.take j).flatten ++ ls[j] := by
  rw [take_one h, List.flatten_append]; simp only [List.flatten_cons, List.flatten_nil, List.append_nil]
theorem flat_len (ls : List (List Int)) (j : Nat) : (ls.take j).flatten.length = tot ls j := by
  unfold tot; simp [List.length_flatten]
theorem or_hi : ∀ a : Nat, a < 8 → ∀ t : Nat, t < 32 → bits .or .u8 ((a * 32 : Nat) : Int) (t : Int) = ((a * 32 + t : Nat) : Int) := by decide +kernel
theorem first_or {a t : Int} (h0 : 0 ≤ a) (h1 : a < 256) (h2 : a % 32 = 0) (h3 : 0 ≤ t) (h4 : t < 32) : bits .or .u8 a t = a + t := by
  obtain ⟨a, rfl⟩ := Int.eq_ofNat_of_zero_le h0
  obtain ⟨t, rfl⟩ := Int.eq_ofNat_of_zero_le h3
  have := or_hi (a / 32) (by omega) t (by omega)
  rw [show a / 32 * 32 = a by omega] at this
  rw [this]; omega
theorem or_32n : ∀ a : Nat, a < 4 → bits .or .u8 ((a * 64 : Nat) : Int) 32 = ((a * 64 + 32 : Nat) : Int) := by decide +kernel
theorem cls_or {a : Int} (h0 : 0 ≤ a) (h1 : a ≤ 3) : bits .or .u8 (a * 64) 32 = a * 64 + 32 := by
  obtain ⟨a, rfl⟩ := Int.eq_ofNat_of_zero_le h0
  have := or_32n a (by omega)
  rw [show ((a : Int) * 64) = ((a * 64 : Nat) : Int) by omega, this]; omega
def firstR (cls : Int) (cons : Bool) : Int := cls * 64 + (if cons then 32 else 0)
theorem firstR_bd {cls : Int} {cons : Bool} (h0 : 0 ≤ cls) (h1 : cls ≤ 3) : 0 ≤ firstR cls cons ∧ firstR cls cons < 256 ∧ firstR cls cons % 32 = 0 := by
  unfold firstR
  cases cons <;> simp <;> omega
def headA (first tag : Int) : List Int := if tag < 31 then [first + tag] else (first + 31) :: sevenR tag.toNat
theorem headR_eq (cls tag : Int) (cons : Bool) (n : Nat) : headR cls tag cons n = headA (firstR cls cons) tag ++ lenBytes n := rfl
theorem headA_len (first tag : Int) : (headA first tag).length ≤ 12 := by
  unfold headA
  split
  · simp
  · have := seven_len tag.toNat
    simp; omega
theorem be_len : ∀ f n, (bytesBE f n).length ≤ f
  | 0, n => by simp [bytesBE]
  | f + 1, n => by
    rw [bytesBE]
    split
    · simp
    · have := be_len f (n / 256)
      simp; omega
theorem lenB_len (n : Nat) : (lenBytes n).length ≤ 5 := by
  unfold lenBytes
  split
  · simp
  · have := be_len 4 n
    simp; omega
theorem new_cap {w w' : World} {c : Nat} (n : New w w' (nums .u8 (List.replicate c 0))) : Gw .u8 w w' (.slice (some ⟨w.heap.size, 0, none⟩) 0 c) [] :=
  ⟨.inr ⟨w.heap.size, List.replicate c 0, by simp, by simpa using n.blk⟩, fun b e => by cases e; exact Nat.le_refl _, n.fr nob⟩
theorem strip_be {n : Nat} (h : n < 4294967296) : stripZ [((n / 16777216 % 256 : Nat) : Int), ((n / 65536 % 256 : Nat) : Int), ((n / 256 % 256 : Nat) : Int), ((n % 256 : Nat) : Int)] = bytesBE 4 n := by
  simp only [bytesBE, stripZ]
  by_cases h0 : n = 0
  · subst h0; rfl
  by_cases h1 : n / 256 = 0
  · have e1 : n / 16777216 % 256 = 0 := by omega
    have e2 : n / 65536 % 256 = 0 := by omega
    have e3 : n / 256 % 256 = 0 := by omega
    have e4 : n % 256 ≠ 0 := by omega
    simp [e1, e2, e3, e4, h0, h1]
    omega
  by_cases h2 : n / 256 / 256 = 0
  · have e1 : n / 16777216 % 256 = 0 := by omega
    have e2 : n / 65536 % 256 = 0 := by omega
    have e3 : n / 256 % 256 ≠ 0 := by omega
    rw [if_pos (by omega), if_pos (by omega), if_neg (by omega), if_neg h0, if_neg h1, if_pos h2]
    simp
  by_cases h3 : n / 256 / 256 / 256 = 0
  · have e1 : n / 16777216 % 256 = 0 := by omega
    have e2 : n / 65536 % 256 ≠ 0 := by omega
    rw [if_pos (by omega), if_neg (by omega), if_neg h0, if_neg h1, if_neg h2, if_pos h3]
    simp [Nat.div_div_eq_div_mul]
  · rw [if_neg (by omega), if_neg h0, if_neg h1, if_neg h2, if_neg h3]
    simp [Nat.div_div_eq_div_mul]
theorem trimb_all {w : World} {A : Option Addr} {c : Nat} {l : List Int} (hc : l.length ≤ c) (hr : Rd w A (nums .u8 l)) (h63 : l.length ≤ 9223372036854775807) (K : Value → World → Prop)
    (hK : ∀ A' c', (stripZ l).length ≤ c' → (∀ w2, Rd w2 A (nums .u8 l) → Rd w2 A' (nums .u8 (stripZ l))) → K (.slice A' (stripZ l).length c') w) : callK Tryd.prog 103 [.slice A l.length c, .int .u8 0] w K := by
  refine call_of Tryd.func103 Code.h103 (by simp [Code.c103]) ?_
  simp (disch := omega) only [wu64, wu32, wu8, fdiv_nn, EO, ↓EP, EQ, EM, ↓reduceIte, Int.reduceAdd, Int.reduceEq, Int.reduceLE, Int.reduceLT, Int.reduceMul, Int.reduceNeg, Int.reducePow, Int.reduceSub, Int.reduceToNat, Nat.reduceAdd, Nat.reduceEqDiff, Nat.reduceLT, Nat.reduceLeDiff, Nat.reduceMul, reduceCtorEq, Code.c103]
  refine loop_inv (fun t ρ w' => w' = w ∧ ∃ (A' : Option Addr) (c' : Nat) (l' : List Int), ρ 0 = .slice A' l'.length c' ∧ ρ 1 = .int .u8 0 ∧ l'.length ≤ c' ∧ l'.length ≤ l.length ∧ t = l'.length ∧ (∀ w2, Rd w2 A (nums .u8 l) → Rd w2 A' (nums .u8 l')) ∧ stripZ l' = stripZ l) _ ⟨rfl, A, c, l, by simp (disch := omega) only [wu64, wu32, wu8, fdiv_nn, EO, ↓EP, EQ, EM, ↓reduceIte, Int.reduceAdd, Int.reduceEq, Int.reduceLE, Int.reduceLT, Int.reduceMul, Int.reduceNeg, Int.reducePow, Int.reduceSub, Int.reduceToNat, Nat.reduceAdd, Nat.reduceEqDiff, Nat.reduceLT, Nat.reduceLeDiff, Nat.reduceMul, reduceCtorEq], by simp (disch := omega) only [wu64, wu32, wu8, fdiv_nn, EO, ↓EP, EQ, EM, ↓reduceIte, Int.reduceAdd, Int.reduceEq, Int.reduceLE, Int.reduceLT, Int.reduceMul, Int.reduceNeg, Int.reducePow, Int.reduceSub, Int.reduceToNat, Nat.reduceAdd, Nat.reduceEqDiff, Nat.reduceLT, Nat.reduceLeDiff, Nat.reduceMul, reduceCtorEq], hc, Nat.le_refl _, rfl, fun _ h => h, rfl⟩ ?_
  rintro t ρ w' hf ⟨rfl, A', c', l', h0, h1, hc', hll, rfl, hall, hs⟩ N hN
  have hr' := hall w' hr
  clear hf
  by_cases hl : l'.length = 0
  · have : l' = [] := List.length_eq_zero_iff.1 hl
    subst this
    simp (disch := omega) only [wu64, wu32, wu8, fdiv_nn, EO, ↓EP, EQ, EM, ↓reduceIte, Int.reduceAdd, Int.reduceEq, Int.reduceLE, Int.reduceLT, Int.reduceMul, Int.reduceNeg, Int.reducePow, Int.reduceSub, Int.reduceToNat, Nat.reduceAdd, Nat.reduceEqDiff, Nat.reduceLT, Nat.reduceLeDiff, Nat.reduceMul, reduceCtorEq, h0, h1, List.length_nil, Int.natCast_zero]
    rw [← hs] at hK
    exact hK none 0 (Nat.le_refl _) fun _ _ => .inl rfl
  · obtain ⟨ad, rfl, cell⟩ := pos_cells hr' (by omega)
    have c0 := cell 0 (by omega)
    rw [show ((0 : Nat) : Int) = 0 by rfl] at c0
    have hd := drop_at (show 0 < l'.length by omega)
    rw [List.drop_zero, show ((0 : Nat) : Int) = 0 by rfl] at hd
    by_cases hz : at' l' 0 = 0
    · simp (disch := omega) only [wu64, wu32, wu8, fdiv_nn, EO, ↓EP, EQ, EM, ↓reduceIte, Int.reduceAdd, Int.reduceEq, Int.reduceLE, Int.reduceLT, Int.reduceMul, Int.reduceNeg, Int.reducePow, Int.reduceSub, Int.reduceToNat, Nat.reduceAdd, Nat.reduceEqDiff, Nat.reduceLT, Nat.reduceLeDiff, Nat.reduceMul, reduceCtorEq, h0, h1, c0, hz]
      refine hN (l'.length - 1) _ _ (by omega) ⟨rfl, subA (some ad) c' 1 1, c' - 1, l'.drop 1, by simp (disch := omega) only [wu64, wu32, wu8, fdiv_nn, EO, ↓EP, EQ, EM, ↓reduceIte, Int.reduceAdd, Int.reduceEq, Int.reduceLE, Int.reduceLT, Int.reduceMul, Int.reduceNeg, Int.reducePow, Int.reduceSub, Int.reduceToNat, Nat.reduceAdd, Nat.reduceEqDiff, Nat.reduceLT, Nat.reduceLeDiff, Nat.reduceMul, reduceCtorEq, h0, List.length_drop], by simp (disch := omega) only [wu64, wu32, wu8, fdiv_nn, EO, ↓EP, EQ, EM, ↓reduceIte, Int.reduceAdd, Int.reduceEq, Int.reduceLE, Int.reduceLT, Int.reduceMul, Int.reduceNeg, Int.reducePow, Int.reduceSub, Int.reduceToNat, Nat.reduceAdd, Nat.reduceEqDiff, Nat.reduceLT, Nat.reduceLeDiff, Nat.reduceMul, reduceCtorEq, h1], by simp; omega, by simp; omega, by simp, fun w2 h2 => (hall w2 h2).subA c' 1 hc', ?_⟩
      rw [← hs, hd, stripZ, if_pos hz]; rfl
    · have hzf : (at' l' 0 = 0) = False := eq_false hz
      simp (disch := omega) only [wu64, wu32, wu8, fdiv_nn, EO, ↓EP, EQ, EM, ↓reduceIte, Int.reduceAdd, Int.reduceEq, Int.reduceLE, Int.reduceLT, Int.reduceMul, Int.reduceNeg, Int.reducePow, Int.reduceSub, Int.reduceToNat, Nat.reduceAdd, Nat.reduceEqDiff, Nat.reduceLT, Nat.reduceLeDiff, Nat.reduceMul, reduceCtorEq, h0, h1, c0, hzf]
      rw [← hs, hd, stripZ, if_neg hz, ← hd] at hK
      exact hK _ _ hc' hall
theorem trim_n {w : World} {A : Option Addr} {c : Nat} {l q : List Int} (hc : l.length ≤ c) (hr : Rd w A (nums .u8 l)) (h0 : 0 < l.length) (h63 : l.length ≤ 9223372036854775807) (hq : stripZ l = q) (K : Value → World → Prop)
    (hK : ∀ A' c', q.length ≤ c' → (∀ w2, Rd w2 A (nums .u8 l) → Rd w2 A' (nums .u8 q)) → K (.slice A' q.length c') w) : callK Tryd.prog 87 [.slice A l.length c, .string ⟨#[0]⟩] w K := by
  subst hq
  refine call_of Tryd.func87 Code.h87 (by simp [Code.c87]) ?_
  simp (disch := omega) only [wu64, wu32, wu8, fdiv_nn, EO, ↓EP, EQ, EM, ↓reduceIte, Int.reduceAdd, Int.reduceEq, Int.reduceLE, Int.reduceLT, Int.reduceMul, Int.reduceNeg, Int.reducePow, Int.reduceSub, Int.reduceToNat, Nat.reduceAdd, Nat.reduceEqDiff, Nat.reduceLT, Nat.reduceLeDiff, Nat.reduceMul, reduceCtorEq, Code.c87, eq_z0, sz_z, Int.natCast_one, ix_z]
  refine trimb_all hc hr h63 _ fun A' c' hc' hall => ?_
  simp (disch := omega) only [wu64, wu32, wu8, fdiv_nn, EO, ↓EP, EQ, EM, ↓reduceIte, Int.reduceAdd, Int.reduceEq, Int.reduceLE, Int.reduceLT, Int.reduceMul, Int.reduceNeg, Int.reducePow, Int.reduceSub, Int.reduceToNat, Nat.reduceAdd, Nat.reduceEqDiff, Nat.reduceLT, Nat.reduceLeDiff, Nat.reduceMul, reduceCtorEq]
  exact hK A' c' hc' hall
end Go.Proofs.YtcgplgpdcfocpaaDoor.Der
end
section
set_option linter.unusedVariables false
set_option linter.unusedSimpArgs false
namespace Go.Proofs.YtcgplgpdcfocpaaDoor.Der
open Go Go.RowKit Go.Proofs Go.Proofs.YtcgplgpdcfocpaaDoor.Eng Go.Proofs.YtcgplgpdcfocpaaDoor.Code
set_option maxRecDepth 100000
attribute [local irreducible] callK S.W opsW scrW scrT
set_option maxHeartbeats 4000000 in
theorem put_vw {w : World} {cls tag : Int} {cons : Bool} {X : Value} {ls : List (List Int)} (hX : LV w X ls) (hcl : -9223372036854775808 ≤ cls ∧ cls ≤ 9223372036854775807) (htg : -9223372036854775808 ≤ tag ∧ tag ≤ 9223372036854775807) (h63 : ls.length ≤ 9223372036854775807)
    (hl63 : ∀ l ∈ ls, l.length ≤ 9223372036854775807) (K : Value → World → Prop)
    (hK : ∀ v' w', Gw .u8 w w' v' (putR cls tag cons ls).1 → K (pr2 v' (putR cls tag cons ls).2) w') : callK Tryd.prog 58 [.int .i64 cls, .int .i64 tag, .bool cons, X] w K := by
  have hX0 := hX.ex
  obtain ⟨A, c, vs, rfl, hc, _⟩ := hX0
  refine call_of Tryd.func58 Code.h58 (by simp [Code.c58]) ?_
  unfold putR at hK
  by_cases hbad : cls < 0 ∨ 3 < cls ∨ tag < 0 ∨ 268435455 < tag ∨ (cls = 0 ∧ tag = 0)
  · rw [if_pos hbad] at hK
    have fin := hK _ w (Gw.nil .u8 w)
    by_cases b1 : cls < 0
    · simp (disch := omega) only [wu64, wu32, wu8, fdiv_nn, EO, ↓EP, EQ, EM, ↓reduceIte, Int.reduceAdd, Int.reduceEq, Int.reduceLE, Int.reduceLT, Int.reduceMul, Int.reduceNeg, Int.reducePow, Int.reduceSub, Int.reduceToNat, Nat.reduceAdd, Nat.reduceEqDiff, Nat.reduceLT, Nat.reduceLeDiff, Nat.reduceMul, reduceCtorEq, Code.c58]
      exact fin
    by_cases b2 : 3 < cls
    · simp (disch := omega) only [wu64, wu32, wu8, fdiv_nn, EO, ↓EP, EQ, EM, ↓reduceIte, Int.reduceAdd, Int.reduceEq, Int.reduceLE, Int.reduceLT, Int.reduceMul, Int.reduceNeg, Int.reducePow, Int.reduceSub, Int.reduceToNat, Nat.reduceAdd, Nat.reduceEqDiff, Nat.reduceLT, Nat.reduceLeDiff, Nat.reduceMul, reduceCtorEq, Code.c58]
      exact fin
    by_cases b3 : tag < 0
    · simp (disch := omega) only [wu64, wu32, wu8, fdiv_nn, EO, ↓EP, EQ, EM, ↓reduceIte, Int.reduceAdd, Int.reduceEq, Int.reduceLE, Int.reduceLT, Int.reduceMul, Int.reduceNeg, Int.reducePow, Int.reduceSub, Int.reduceToNat, Nat.reduceAdd, Nat.reduceEqDiff, Nat.reduceLT, Nat.reduceLeDiff, Nat.reduceMul, reduceCtorEq, Code.c58]
      exact fin
    by_cases b4 : 268435455 < tag
    · simp (disch := omega) only [wu64, wu32, wu8, fdiv_nn, EO, ↓EP, EQ, EM, ↓reduceIte, Int.reduceAdd, Int.reduceEq, Int.reduceLE, Int.reduceLT, Int.reduceMul, Int.reduceNeg, Int.reducePow, Int.reduceSub, Int.reduceToNat, Nat.reduceAdd, Nat.reduceEqDiff, Nat.reduceLT, Nat.reduceLeDiff, Nat.reduceMul, reduceCtorEq, Code.c58]
      exact fin
    have b5 : cls = 0 ∧ tag = 0 := by omega
    rw [b5.1, b5.2]
    simp (disch := omega) only [wu64, wu32, wu8, fdiv_nn, EO, ↓EP, EQ, EM, ↓reduceIte, Int.reduceAdd, Int.reduceEq, Int.reduceLE, Int.reduceLT, Int.reduceMul, Int.reduceNeg, Int.reducePow, Int.reduceSub, Int.reduceToNat, Nat.reduceAdd, Nat.reduceEqDiff, Nat.reduceLT, Nat.reduceLeDiff, Nat.reduceMul, reduceCtorEq, Code.c58]
    exact fin
  rw [if_neg hbad] at hK
  have hne : (cls + tag = 0) = False := eq_false (by omega)
  have hc0 : 0 ≤ cls ∧ cls ≤ 3 ∧ 0 ≤ tag ∧ tag ≤ 268435455 := by omega
  simp (disch := omega) only [wu64, wu32, wu8, fdiv_nn, EO, ↓EP, EQ, EM, ↓reduceIte, Int.reduceAdd, Int.reduceEq, Int.reduceLE, Int.reduceLT, Int.reduceMul, Int.reduceNeg, Int.reducePow, Int.reduceSub, Int.reduceToNat, Nat.reduceAdd, Nat.reduceEqDiff, Nat.reduceLT, Nat.reduceLeDiff, Nat.reduceMul, reduceCtorEq, Code.c58, hne]
  refine loop_inv (fun t ρ w' => w' = w ∧ ∃ j : Nat, ρ 40 = .int .i64 j ∧ ρ 10 = .int .i64 (tot ls j : Int) ∧ j ≤ ls.length ∧ t = ls.length - j ∧ tot ls j ≤ 16777216) ls.length ⟨rfl, 0, by simp (disch := omega) only [wu64, wu32, wu8, fdiv_nn, EO, ↓EP, EQ, EM, ↓reduceIte, Int.reduceAdd, Int.reduceEq, Int.reduceLE, Int.reduceLT, Int.reduceMul, Int.reduceNeg, Int.reducePow, Int.reduceSub, Int.reduceToNat, Nat.reduceAdd, Nat.reduceEqDiff, Nat.reduceLT, Nat.reduceLeDiff, Nat.reduceMul, reduceCtorEq], by simp (disch := omega) only [wu64, wu32, wu8, fdiv_nn, EO, ↓EP, EQ, EM, ↓reduceIte, Int.reduceAdd, Int.reduceEq, Int.reduceLE, Int.reduceLT, Int.reduceMul, Int.reduceNeg, Int.reducePow, Int.reduceSub, Int.reduceToNat, Nat.reduceAdd, Nat.reduceEqDiff, Nat.reduceLT, Nat.reduceLeDiff, Nat.reduceMul, reduceCtorEq]; rfl, by omega, by omega, by simp [tot]⟩ ?_
  rintro t ρ w' hf ⟨rfl, j, h40, h10, hj, rfl, htj⟩ N hN
  have r0 : ρ 0 = .int .i64 cls := by rw [hf 0 rfl]; simp (disch := omega) only [wu64, wu32, wu8, fdiv_nn, EO, ↓EP, EQ, EM, ↓reduceIte, Int.reduceAdd, Int.reduceEq, Int.reduceLE, Int.reduceLT, Int.reduceMul, Int.reduceNeg, Int.reducePow, Int.reduceSub, Int.reduceToNat, Nat.reduceAdd, Nat.reduceEqDiff, Nat.reduceLT, Nat.reduceLeDiff, Nat.reduceMul, reduceCtorEq]
  have r1 : ρ 1 = .int .i64 tag := by rw [hf 1 rfl]; simp (disch := omega) only [wu64, wu32, wu8, fdiv_nn, EO, ↓EP, EQ, EM, ↓reduceIte, Int.reduceAdd, Int.reduceEq, Int.reduceLE, Int.reduceLT, Int.reduceMul, Int.reduceNeg, Int.reducePow, Int.reduceSub, Int.reduceToNat, Nat.reduceAdd, Nat.reduceEqDiff, Nat.reduceLT, Nat.reduceLeDiff, Nat.reduceMul, reduceCtorEq]
  have r2 : ρ 2 = .bool cons := by rw [hf 2 rfl]; simp (disch := omega) only [wu64, wu32, wu8, fdiv_nn, EO, ↓EP, EQ, EM, ↓reduceIte, Int.reduceAdd, Int.reduceEq, Int.reduceLE, Int.reduceLT, Int.reduceMul, Int.reduceNeg, Int.reducePow, Int.reduceSub, Int.reduceToNat, Nat.reduceAdd, Nat.reduceEqDiff, Nat.reduceLT, Nat.reduceLeDiff, Nat.reduceMul, reduceCtorEq]
  have r3 : ρ 3 = .slice A ls.length c := by rw [hf 3 rfl]; simp (disch := omega) only [wu64, wu32, wu8, fdiv_nn, EO, ↓EP, EQ, EM, ↓reduceIte, Int.reduceAdd, Int.reduceEq, Int.reduceLE, Int.reduceLT, Int.reduceMul, Int.reduceNeg, Int.reducePow, Int.reduceSub, Int.reduceToNat, Nat.reduceAdd, Nat.reduceEqDiff, Nat.reduceLT, Nat.reduceLeDiff, Nat.reduceMul, reduceCtorEq]
  have r38 : ρ 38 = .slice A ls.length c := by rw [hf 38 rfl]; simp (disch := omega) only [wu64, wu32, wu8, fdiv_nn, EO, ↓EP, EQ, EM, ↓reduceIte, Int.reduceAdd, Int.reduceEq, Int.reduceLE, Int.reduceLT, Int.reduceMul, Int.reduceNeg, Int.reducePow, Int.reduceSub, Int.reduceToNat, Nat.reduceAdd, Nat.reduceEqDiff, Nat.reduceLT, Nat.reduceLeDiff, Nat.reduceMul, reduceCtorEq]
  have r39 : ρ 39 = .int .i64 ls.length := by rw [hf 39 rfl]; simp (disch := omega) only [wu64, wu32, wu8, fdiv_nn, EO, ↓EP, EQ, EM, ↓reduceIte, Int.reduceAdd, Int.reduceEq, Int.reduceLE, Int.reduceLT, Int.reduceMul, Int.reduceNeg, Int.reducePow, Int.reduceSub, Int.reduceToNat, Nat.reduceAdd, Nat.reduceEqDiff, Nat.reduceLT, Nat.reduceLeDiff, Nat.reduceMul, reduceCtorEq]
  clear hf
  by_cases hjl : (j : Int) < (ls.length : Int)
  · obtain ⟨ad, dA, dc, rfl, _, cj, hdc, _⟩ := hX.at (i := j) (by omega)
    have hlj := hl63 ls[j] (List.getElem_mem (by omega))
    have hts := tot_succ (ls := ls) (j := j) (by omega)
    by_cases hbig : 16777216 - (tot ls j : Int) < (ls[j].length : Int)
    · have htl := tot_le ls (j + 1)
      rw [if_pos (by omega)] at hK
      simp (disch := omega) only [wu64, wu32, wu8, fdiv_nn, EO, ↓EP, EQ, EM, ↓reduceIte, Int.reduceAdd, Int.reduceEq, Int.reduceLE, Int.reduceLT, Int.reduceMul, Int.reduceNeg, Int.reducePow, Int.reduceSub, Int.reduceToNat, Nat.reduceAdd, Nat.reduceEqDiff, Nat.reduceLT, Nat.reduceLeDiff, Nat.reduceMul, reduceCtorEq, W_join, h40, h10, r38, r39, cj]
      exact hK _ w' (Gw.nil .u8 w')
    · simp (disch := omega) only [wu64, wu32, wu8, fdiv_nn, EO, ↓EP, EQ, EM, ↓reduceIte, Int.reduceAdd, Int.reduceEq, Int.reduceLE, Int.reduceLT, Int.reduceMul, Int.reduceNeg, Int.reducePow, Int.reduceSub, Int.reduceToNat, Nat.reduceAdd, Nat.reduceEqDiff, Nat.reduceLT, Nat.reduceLeDiff, Nat.reduceMul, reduceCtorEq, W_join, h40, h10, r38, r39, cj]
      exact hN (ls.length - (j + 1)) _ _ (by omega) ⟨rfl, j + 1, by simp (disch := omega) only [wu64, wu32, wu8, fdiv_nn, EO, ↓EP, EQ, EM, ↓reduceIte, Int.reduceAdd, Int.reduceEq, Int.reduceLE, Int.reduceLT, Int.reduceMul, Int.reduceNeg, Int.reducePow, Int.reduceSub, Int.reduceToNat, Nat.reduceAdd, Nat.reduceEqDiff, Nat.reduceLT, Nat.reduceLeDiff, Nat.reduceMul, reduceCtorEq, h40, Int.natCast_add], by simp (disch := omega) only [wu64, wu32, wu8, fdiv_nn, EO, ↓EP, EQ, EM, ↓reduceIte, Int.reduceAdd, Int.reduceEq, Int.reduceLE, Int.reduceLT, Int.reduceMul, Int.reduceNeg, Int.reducePow, Int.reduceSub, Int.reduceToNat, Nat.reduceAdd, Nat.reduceEqDiff, Nat.reduceLT, Nat.reduceLeDiff, Nat.reduceMul, reduceCtorEq, h10, hts, Int.natCast_add], by omega, rfl, by omega⟩
  have hje : j = ls.length := by omega
  subst hje
  have hta := tot_all ls
  rw [hta] at h10 htj
  generalize hn : (ls.map List.length).sum = n at hK h10 htj hta
  rw [if_neg (by omega)] at hK
  clear hN
  have e6 : IntKind.u8.wrap (cls * 2 ^ 6) = cls * 64 := by
    rw [show (2 : Int) ^ 6 = 64 by decide]; exact wu8 (by omega) (by omega)
  have e6' : IntKind.i64.wrap (cls * 2 ^ 6) = cls * 2 ^ 6 := by
    rw [show (2 : Int) ^ 6 = 64 by decide]; exact w64 (by omega) (by omega)
  simp (disch := omega) only [wu64, wu32, wu8, fdiv_nn, EO, ↓EP, EQ, EM, ↓reduceIte, Int.reduceAdd, Int.reduceEq, Int.reduceLE, Int.reduceLT, Int.reduceMul, Int.reduceNeg, Int.reducePow, Int.reduceSub, Int.reduceToNat, Nat.reduceAdd, Nat.reduceEqDiff, Nat.reduceLT, Nat.reduceLeDiff, Nat.reduceMul, reduceCtorEq, W_joinT, h40, h10, r0, r38, r39, e6, e6']
  refine join_cut (fun ρ' w2 => w2 = w' ∧ ρ' 13 = .int .u8 (firstR cls cons)) ?_ ?_
  · intro N1 hN1
    cases cons
    · simp (disch := omega) only [wu64, wu32, wu8, fdiv_nn, EO, ↓EP, EQ, EM, ↓reduceIte, Int.reduceAdd, Int.reduceEq, Int.reduceLE, Int.reduceLT, Int.reduceMul, Int.reduceNeg, Int.reducePow, Int.reduceSub, Int.reduceToNat, Nat.reduceAdd, Nat.reduceEqDiff, Nat.reduceLT, Nat.reduceLeDiff, Nat.reduceMul, reduceCtorEq, r2]
      exact hN1 _ _ ⟨rfl, by simp (disch := omega) only [wu64, wu32, wu8, fdiv_nn, EO, ↓EP, EQ, EM, ↓reduceIte, Int.reduceAdd, Int.reduceEq, Int.reduceLE, Int.reduceLT, Int.reduceMul, Int.reduceNeg, Int.reducePow, Int.reduceSub, Int.reduceToNat, Nat.reduceAdd, Nat.reduceEqDiff, Nat.reduceLT, Nat.reduceLeDiff, Nat.reduceMul, reduceCtorEq, e6, e6']; unfold firstR; simp⟩
    · have eo := cls_or hc0.1 hc0.2.1
      simp (disch := omega) only [wu64, wu32, wu8, fdiv_nn, EO, ↓EP, EQ, EM, ↓reduceIte, Int.reduceAdd, Int.reduceEq, Int.reduceLE, Int.reduceLT, Int.reduceMul, Int.reduceNeg, Int.reducePow, Int.reduceSub, Int.reduceToNat, Nat.reduceAdd, Nat.reduceEqDiff, Nat.reduceLT, Nat.reduceLeDiff, Nat.reduceMul, reduceCtorEq, r2, e6, e6', eo]
      exact hN1 _ _ ⟨rfl, by simp (disch := omega) only [wu64, wu32, wu8, fdiv_nn, EO, ↓EP, EQ, EM, ↓reduceIte, Int.reduceAdd, Int.reduceEq, Int.reduceLE, Int.reduceLT, Int.reduceMul, Int.reduceNeg, Int.reducePow, Int.reduceSub, Int.reduceToNat, Nat.reduceAdd, Nat.reduceEqDiff, Nat.reduceLT, Nat.reduceLeDiff, Nat.reduceMul, reduceCtorEq, e6, e6', eo]; unfold firstR; simp⟩
  rintro ρ1 w1 hf1 ⟨rfl, g13⟩
  have q1 : ρ1 1 = .int .i64 tag := by rw [hf1 1 rfl]; simp (disch := omega) only [wu64, wu32, wu8, fdiv_nn, EO, ↓EP, EQ, EM, ↓reduceIte, Int.reduceAdd, Int.reduceEq, Int.reduceLE, Int.reduceLT, Int.reduceMul, Int.reduceNeg, Int.reducePow, Int.reduceSub, Int.reduceToNat, Nat.reduceAdd, Nat.reduceEqDiff, Nat.reduceLT, Nat.reduceLeDiff, Nat.reduceMul, reduceCtorEq, r1]
  have q3 : ρ1 3 = .slice A ls.length c := by rw [hf1 3 rfl]; simp (disch := omega) only [wu64, wu32, wu8, fdiv_nn, EO, ↓EP, EQ, EM, ↓reduceIte, Int.reduceAdd, Int.reduceEq, Int.reduceLE, Int.reduceLT, Int.reduceMul, Int.reduceNeg, Int.reducePow, Int.reduceSub, Int.reduceToNat, Nat.reduceAdd, Nat.reduceEqDiff, Nat.reduceLT, Nat.reduceLeDiff, Nat.reduceMul, reduceCtorEq, r3]
  have q10 : ρ1 10 = .int .i64 n := by rw [hf1 10 rfl]; simp (disch := omega) only [wu64, wu32, wu8, fdiv_nn, EO, ↓EP, EQ, EM, ↓reduceIte, Int.reduceAdd, Int.reduceEq, Int.reduceLE, Int.reduceLT, Int.reduceMul, Int.reduceNeg, Int.reducePow, Int.reduceSub, Int.reduceToNat, Nat.reduceAdd, Nat.reduceEqDiff, Nat.reduceLT, Nat.reduceLeDiff, Nat.reduceMul, reduceCtorEq, h10]
  clear hf1
  have hF := firstR_bd (cons := cons) hc0.1 hc0.2.1
  rw [headR_eq] at hK
  generalize firstR cls cons = F at g13 hF hK
  have en : ((n : Int) + 10).toNat = n + 10 := by omega
  simp (disch := omega) only [wu64, wu32, wu8, fdiv_nn, EO, ↓EP, EQ, EM, ↓reduceIte, Int.reduceAdd, Int.reduceEq, Int.reduceLE, Int.reduceLT, Int.reduceMul, Int.reduceNeg, Int.reducePow, Int.reduceSub, Int.reduceToNat, Nat.reduceAdd, Nat.reduceEqDiff, Nat.reduceLT, Nat.reduceLeDiff, Nat.reduceMul, reduceCtorEq, W_joinT, g13, q1, q3, q10, en]
  refine al_k (nums .u8 (List.replicate (n + 10) 0)) (by rw [madeCells_list, nums_replicate]) fun w2 n2 => ?_
  have g2 := new_cap n2
  simp (disch := omega) only [wu64, wu32, wu8, fdiv_nn, EO, ↓EP, EQ, EM, ↓reduceIte, Int.reduceAdd, Int.reduceEq, Int.reduceLE, Int.reduceLT, Int.reduceMul, Int.reduceNeg, Int.reducePow, Int.reduceSub, Int.reduceToNat, Nat.reduceAdd, Nat.reduceEqDiff, Nat.reduceLT, Nat.reduceLeDiff, Nat.reduceMul, reduceCtorEq, W_joinT, g13, q1, q3, q10, en]
  refine join_cut (fun ρ' w3 => ∃ B, ρ' 14 = B ∧ Gw .u8 w1 w3 B (headA F tag)) ?_ ?_
  · intro N1 hN1
    by_cases h31 : tag < 31
    · have eo := first_or hF.1 hF.2.1 hF.2.2 hc0.2.2.1 (show tag < 32 by omega)
      have eh : headA F tag = [F + tag] := if_pos h31
      simp (disch := omega) only [wu64, wu32, wu8, fdiv_nn, EO, ↓EP, EQ, EM, ↓reduceIte, Int.reduceAdd, Int.reduceEq, Int.reduceLE, Int.reduceLT, Int.reduceMul, Int.reduceNeg, Int.reducePow, Int.reduceSub, Int.reduceToNat, Nat.reduceAdd, Nat.reduceEqDiff, Nat.reduceLT, Nat.reduceLeDiff, Nat.reduceMul, reduceCtorEq, g13, q1, eo]
      refine bsl1 fun w3 n3 => ?_
      simp (disch := omega) only [wu64, wu32, wu8, fdiv_nn, EO, ↓EP, EQ, EM, ↓reduceIte, Int.reduceAdd, Int.reduceEq, Int.reduceLE, Int.reduceLT, Int.reduceMul, Int.reduceNeg, Int.reducePow, Int.reduceSub, Int.reduceToNat, Nat.reduceAdd, Nat.reduceEqDiff, Nat.reduceLT, Nat.reduceLeDiff, Nat.reduceMul, reduceCtorEq, g13, q1, eo]
      refine app_num (g2.new n3).sl rfl n3.rdv (by simp) (by omega) fun v4 w4 a4 => ?_
      have g4 := (g2.new n3).apd a4
      rw [List.nil_append, ← eh] at g4
      simp (disch := omega) only [wu64, wu32, wu8, fdiv_nn, EO, ↓EP, EQ, EM, ↓reduceIte, Int.reduceAdd, Int.reduceEq, Int.reduceLE, Int.reduceLT, Int.reduceMul, Int.reduceNeg, Int.reducePow, Int.reduceSub, Int.reduceToNat, Nat.reduceAdd, Nat.reduceEqDiff, Nat.reduceLT, Nat.reduceLeDiff, Nat.reduceMul, reduceCtorEq]
      exact hN1 _ _ ⟨v4, by simp (disch := omega) only [wu64, wu32, wu8, fdiv_nn, EO, ↓EP, EQ, EM, ↓reduceIte, Int.reduceAdd, Int.reduceEq, Int.reduceLE, Int.reduceLT, Int.reduceMul, Int.reduceNeg, Int.reducePow, Int.reduceSub, Int.reduceToNat, Nat.reduceAdd, Nat.reduceEqDiff, Nat.reduceLT, Nat.reduceLeDiff, Nat.reduceMul, reduceCtorEq], g4⟩
    · have eo := first_or hF.1 hF.2.1 hF.2.2 (show (0 : Int) ≤ 31 by omega) (by omega)
      have eh : headA F tag = [F + 31] ++ sevenR tag.toNat := if_neg h31
      have hs := seven_len tag.toNat
      have et : tag = ((tag.toNat : Nat) : Int) := by omega
      simp (disch := omega) only [wu64, wu32, wu8, fdiv_nn, EO, ↓EP, EQ, EM, ↓reduceIte, Int.reduceAdd, Int.reduceEq, Int.reduceLE, Int.reduceLT, Int.reduceMul, Int.reduceNeg, Int.reducePow, Int.reduceSub, Int.reduceToNat, Nat.reduceAdd, Nat.reduceEqDiff, Nat.reduceLT, Nat.reduceLeDiff, Nat.reduceMul, reduceCtorEq, g13, q1, eo]
      refine bsl1 fun w3 n3 => ?_
      simp (disch := omega) only [wu64, wu32, wu8, fdiv_nn, EO, ↓EP, EQ, EM, ↓reduceIte, Int.reduceAdd, Int.reduceEq, Int.reduceLE, Int.reduceLT, Int.reduceMul, Int.reduceNeg, Int.reducePow, Int.reduceSub, Int.reduceToNat, Nat.reduceAdd, Nat.reduceEqDiff, Nat.reduceLT, Nat.reduceLeDiff, Nat.reduceMul, reduceCtorEq, g13, q1, eo]
      refine app_num (g2.new n3).sl rfl n3.rdv (by simp) (by omega) fun v4 w4 a4 => ?_
      have g4 := (g2.new n3).apd a4
      rw [List.nil_append] at g4
      rw [et] at q1
      generalize tag.toNat = tn at *
      simp (disch := omega) only [wu64, wu32, wu8, fdiv_nn, EO, ↓EP, EQ, EM, ↓reduceIte, Int.reduceAdd, Int.reduceEq, Int.reduceLE, Int.reduceLT, Int.reduceMul, Int.reduceNeg, Int.reducePow, Int.reduceSub, Int.reduceToNat, Nat.reduceAdd, Nat.reduceEqDiff, Nat.reduceLT, Nat.reduceLeDiff, Nat.reduceMul, reduceCtorEq, q1]
      refine seven_vw (by omega) _ fun v5 w5 g5 => ?_
      obtain ⟨A5, c5, rfl, hc5, hr5⟩ := readn g5.sl rfl
      simp (disch := omega) only [wu64, wu32, wu8, fdiv_nn, EO, ↓EP, EQ, EM, ↓reduceIte, Int.reduceAdd, Int.reduceEq, Int.reduceLE, Int.reduceLT, Int.reduceMul, Int.reduceNeg, Int.reducePow, Int.reduceSub, Int.reduceToNat, Nat.reduceAdd, Nat.reduceEqDiff, Nat.reduceLT, Nat.reduceLeDiff, Nat.reduceMul, reduceCtorEq]
      refine app_num (g4.step g5.fr).sl rfl hr5 (by simp; omega) (by omega) fun v6 w6 a6 => ?_
      have g6 := (g4.step g5.fr).apd a6
      rw [← eh] at g6
      simp (disch := omega) only [wu64, wu32, wu8, fdiv_nn, EO, ↓EP, EQ, EM, ↓reduceIte, Int.reduceAdd, Int.reduceEq, Int.reduceLE, Int.reduceLT, Int.reduceMul, Int.reduceNeg, Int.reducePow, Int.reduceSub, Int.reduceToNat, Nat.reduceAdd, Nat.reduceEqDiff, Nat.reduceLT, Nat.reduceLeDiff, Nat.reduceMul, reduceCtorEq]
      exact hN1 _ _ ⟨v6, by simp (disch := omega) only [wu64, wu32, wu8, fdiv_nn, EO, ↓EP, EQ, EM, ↓reduceIte, Int.reduceAdd, Int.reduceEq, Int.reduceLE, Int.reduceLT, Int.reduceMul, Int.reduceNeg, Int.reducePow, Int.reduceSub, Int.reduceToNat, Nat.reduceAdd, Nat.reduceEqDiff, Nat.reduceLT, Nat.reduceLeDiff, Nat.reduceMul, reduceCtorEq], g6⟩
  rintro ρ2 w3 hf2 ⟨B, k14, g3⟩
  have q3' : ρ2 3 = .slice A ls.length c := by rw [hf2 3 rfl]; simp (disch := omega) only [wu64, wu32, wu8, fdiv_nn, EO, ↓EP, EQ, EM, ↓reduceIte, Int.reduceAdd, Int.reduceEq, Int.reduceLE, Int.reduceLT, Int.reduceMul, Int.reduceNeg, Int.reducePow, Int.reduceSub, Int.reduceToNat, Nat.reduceAdd, Nat.reduceEqDiff, Nat.reduceLT, Nat.reduceLeDiff, Nat.reduceMul, reduceCtorEq, q3]
  have q10' : ρ2 10 = .int .i64 n := by rw [hf2 10 rfl]; simp (disch := omega) only [wu64, wu32, wu8, fdiv_nn, EO, ↓EP, EQ, EM, ↓reduceIte, Int.reduceAdd, Int.reduceEq, Int.reduceLE, Int.reduceLT, Int.reduceMul, Int.reduceNeg, Int.reducePow, Int.reduceSub, Int.reduceToNat, Nat.reduceAdd, Nat.reduceEqDiff, Nat.reduceLT, Nat.reduceLeDiff, Nat.reduceMul, reduceCtorEq, q10]
  clear hf2
  have hal := headA_len F tag
  generalize headA F tag = H at g3 hal hK
  simp (disch := omega) only [wu64, wu32, wu8, fdiv_nn, EO, ↓EP, EQ, EM, ↓reduceIte, Int.reduceAdd, Int.reduceEq, Int.reduceLE, Int.reduceLT, Int.reduceMul, Int.reduceNeg, Int.reducePow, Int.reduceSub, Int.reduceToNat, Nat.reduceAdd, Nat.reduceEqDiff, Nat.reduceLT, Nat.reduceLeDiff, Nat.reduceMul, reduceCtorEq, W_joinT, k14, q3', q10']
  refine join_cut (fun ρ' w4 => ∃ B, ρ' 14 = B ∧ Gw .u8 w1 w4 B (H ++ lenBytes n)) ?_ ?_
  · intro N1 hN1
    by_cases h128 : (n : Int) < 128
    · have eh : lenBytes n = [(n : Int)] := if_pos (by omega)
      simp (disch := omega) only [wu64, wu32, wu8, fdiv_nn, EO, ↓EP, EQ, EM, ↓reduceIte, Int.reduceAdd, Int.reduceEq, Int.reduceLE, Int.reduceLT, Int.reduceMul, Int.reduceNeg, Int.reducePow, Int.reduceSub, Int.reduceToNat, Nat.reduceAdd, Nat.reduceEqDiff, Nat.reduceLT, Nat.reduceLeDiff, Nat.reduceMul, reduceCtorEq, k14, q10']
      refine bsl1 fun w4 n4 => ?_
      simp (disch := omega) only [wu64, wu32, wu8, fdiv_nn, EO, ↓EP, EQ, EM, ↓reduceIte, Int.reduceAdd, Int.reduceEq, Int.reduceLE, Int.reduceLT, Int.reduceMul, Int.reduceNeg, Int.reducePow, Int.reduceSub, Int.reduceToNat, Nat.reduceAdd, Nat.reduceEqDiff, Nat.reduceLT, Nat.reduceLeDiff, Nat.reduceMul, reduceCtorEq, k14, q10']
      refine app_num (g3.new n4).sl rfl n4.rdv (by simp; omega) (by omega) fun v5 w5 a5 => ?_
      have g5 := (g3.new n4).apd a5
      rw [← eh] at g5
      simp (disch := omega) only [wu64, wu32, wu8, fdiv_nn, EO, ↓EP, EQ, EM, ↓reduceIte, Int.reduceAdd, Int.reduceEq, Int.reduceLE, Int.reduceLT, Int.reduceMul, Int.reduceNeg, Int.reducePow, Int.reduceSub, Int.reduceToNat, Nat.reduceAdd, Nat.reduceEqDiff, Nat.reduceLT, Nat.reduceLeDiff, Nat.reduceMul, reduceCtorEq]
      exact hN1 _ _ ⟨v5, by simp (disch := omega) only [wu64, wu32, wu8, fdiv_nn, EO, ↓EP, EQ, EM, ↓reduceIte, Int.reduceAdd, Int.reduceEq, Int.reduceLE, Int.reduceLT, Int.reduceMul, Int.reduceNeg, Int.reducePow, Int.reduceSub, Int.reduceToNat, Nat.reduceAdd, Nat.reduceEqDiff, Nat.reduceLT, Nat.reduceLeDiff, Nat.reduceMul, reduceCtorEq], g5⟩
    · have eh : lenBytes n = [128 + ((bytesBE 4 n).length : Int)] ++ bytesBE 4 n := if_neg (by omega)
      have hbl := be_len 4 n
      have hst := strip_be (n := n) (by omega)
      have e24 : (n : Int) / 16777216 = ((n / 16777216 % 256 : Nat) : Int) := by omega
      have e16 : IntKind.u8.wrap ((n : Int) / 65536) = ((n / 65536 % 256 : Nat) : Int) := by rw [wu8_mod]; omega
      have e8 : IntKind.u8.wrap ((n : Int) / 256) = ((n / 256 % 256 : Nat) : Int) := by rw [wu8_mod]; omega
      have e0 : IntKind.u8.wrap (n : Int) = ((n % 256 : Nat) : Int) := by rw [wu8_mod]; omega
      simp (disch := omega) only [wu64, wu32, wu8, fdiv_nn, EO, ↓EP, EQ, EM, ↓reduceIte, Int.reduceAdd, Int.reduceEq, Int.reduceLE, Int.reduceLT, Int.reduceMul, Int.reduceNeg, Int.reducePow, Int.reduceSub, Int.reduceToNat, Nat.reduceAdd, Nat.reduceEqDiff, Nat.reduceLT, Nat.reduceLeDiff, Nat.reduceMul, reduceCtorEq, k14, q10', e24, e16, e8, e0]
      refine bsl4 fun w4 n4 => ?_
      simp (disch := omega) only [wu64, wu32, wu8, fdiv_nn, EO, ↓EP, EQ, EM, ↓reduceIte, Int.reduceAdd, Int.reduceEq, Int.reduceLE, Int.reduceLT, Int.reduceMul, Int.reduceNeg, Int.reducePow, Int.reduceSub, Int.reduceToNat, Nat.reduceAdd, Nat.reduceEqDiff, Nat.reduceLT, Nat.reduceLeDiff, Nat.reduceMul, reduceCtorEq, k14, q10']
      refine trim_n (l := [((n / 16777216 % 256 : Nat) : Int), ((n / 65536 % 256 : Nat) : Int), ((n / 256 % 256 : Nat) : Int), ((n % 256 : Nat) : Int)]) (Nat.le_refl _) n4.rdv (by simp) (by simp) hst _ fun A5 c5 hc5 hr5 => ?_
      generalize bytesBE 4 n = S5 at *
      have eo := d8_128or (a := (S5.length : Int)) ⟨by omega, by omega⟩
      have eo2 : (S5.length : Int) % 128 + 128 = 128 + (S5.length : Int) := by omega
      rw [eo2] at eo
      simp (disch := omega) only [wu64, wu32, wu8, fdiv_nn, EO, ↓EP, EQ, EM, ↓reduceIte, Int.reduceAdd, Int.reduceEq, Int.reduceLE, Int.reduceLT, Int.reduceMul, Int.reduceNeg, Int.reducePow, Int.reduceSub, Int.reduceToNat, Nat.reduceAdd, Nat.reduceEqDiff, Nat.reduceLT, Nat.reduceLeDiff, Nat.reduceMul, reduceCtorEq, k14, q10', eo]
      refine bsl1 fun w5 n5 => ?_
      simp (disch := omega) only [wu64, wu32, wu8, fdiv_nn, EO, ↓EP, EQ, EM, ↓reduceIte, Int.reduceAdd, Int.reduceEq, Int.reduceLE, Int.reduceLT, Int.reduceMul, Int.reduceNeg, Int.reducePow, Int.reduceSub, Int.reduceToNat, Nat.reduceAdd, Nat.reduceEqDiff, Nat.reduceLT, Nat.reduceLeDiff, Nat.reduceMul, reduceCtorEq, k14, q10', eo]
      refine app_num ((g3.new n4).new n5).sl rfl n5.rdv (by simp; omega) (by omega) fun v6 w6 a6 => ?_
      have g6 := ((g3.new n4).new n5).apd a6
      simp (disch := omega) only [wu64, wu32, wu8, fdiv_nn, EO, ↓EP, EQ, EM, ↓reduceIte, Int.reduceAdd, Int.reduceEq, Int.reduceLE, Int.reduceLT, Int.reduceMul, Int.reduceNeg, Int.reducePow, Int.reduceSub, Int.reduceToNat, Nat.reduceAdd, Nat.reduceEqDiff, Nat.reduceLT, Nat.reduceLeDiff, Nat.reduceMul, reduceCtorEq, k14]
      refine app_num g6.sl rfl (hr5 w6 (((n4.rdv).nb (n5.fr nob)).fr a6.fr (.inr fun p hp hb => by
        have h1 : p.block < w3.heap.size := g3.sl.lt hb
        have h2 : w3.heap.size = p.block := congrArg Addr.block (Option.some.inj hp)
        omega))) (by simp; omega) (by omega) fun v7 w7 a7 => ?_
      have g7 := g6.apd a7
      rw [List.append_assoc, ← eh] at g7
      simp (disch := omega) only [wu64, wu32, wu8, fdiv_nn, EO, ↓EP, EQ, EM, ↓reduceIte, Int.reduceAdd, Int.reduceEq, Int.reduceLE, Int.reduceLT, Int.reduceMul, Int.reduceNeg, Int.reducePow, Int.reduceSub, Int.reduceToNat, Nat.reduceAdd, Nat.reduceEqDiff, Nat.reduceLT, Nat.reduceLeDiff, Nat.reduceMul, reduceCtorEq]
      exact hN1 _ _ ⟨v7, by simp (disch := omega) only [wu64, wu32, wu8, fdiv_nn, EO, ↓EP, EQ, EM, ↓reduceIte, Int.reduceAdd, Int.reduceEq, Int.reduceLE, Int.reduceLT, Int.reduceMul, Int.reduceNeg, Int.reducePow, Int.reduceSub, Int.reduceToNat, Nat.reduceAdd, Nat.reduceEqDiff, Nat.reduceLT, Nat.reduceLeDiff, Nat.reduceMul, reduceCtorEq], g7⟩
  rintro ρ3 w4 hf3 ⟨B4, s14, g4⟩
  have s3 : ρ3 3 = .slice A ls.length c := by rw [hf3 3 rfl]; simp (disch := omega) only [wu64, wu32, wu8, fdiv_nn, EO, ↓EP, EQ, EM, ↓reduceIte, Int.reduceAdd, Int.reduceEq, Int.reduceLE, Int.reduceLT, Int.reduceMul, Int.reduceNeg, Int.reducePow, Int.reduceSub, Int.reduceToNat, Nat.reduceAdd, Nat.reduceEqDiff, Nat.reduceLT, Nat.reduceLeDiff, Nat.reduceMul, reduceCtorEq, q3']
  clear hf3
  have hll := lenB_len n
  generalize lenBytes n = L5 at *
  simp (disch := omega) only [wu64, wu32, wu8, fdiv_nn, EO, ↓EP, EQ, EM, ↓reduceIte, Int.reduceAdd, Int.reduceEq, Int.reduceLE, Int.reduceLT, Int.reduceMul, Int.reduceNeg, Int.reducePow, Int.reduceSub, Int.reduceToNat, Nat.reduceAdd, Nat.reduceEqDiff, Nat.reduceLT, Nat.reduceLeDiff, Nat.reduceMul, reduceCtorEq, s14, s3]
  refine loop_inv (fun t ρ5 w5 => ∃ (j : Nat) (C : Value), ρ5 113 = .int .i64 j ∧ ρ5 14 = C ∧ j ≤ ls.length ∧ t = ls.length - j ∧ Gw .u8 w1 w5 C (H ++ L5 ++ (ls.take j).flatten)) ls.length ⟨0, B4, by simp (disch := omega) only [wu64, wu32, wu8, fdiv_nn, EO, ↓EP, EQ, EM, ↓reduceIte, Int.reduceAdd, Int.reduceEq, Int.reduceLE, Int.reduceLT, Int.reduceMul, Int.reduceNeg, Int.reducePow, Int.reduceSub, Int.reduceToNat, Nat.reduceAdd, Nat.reduceEqDiff, Nat.reduceLT, Nat.reduceLeDiff, Nat.reduceMul, reduceCtorEq], by simp (disch := omega) only [wu64, wu32, wu8, fdiv_nn, EO, ↓EP, EQ, EM, ↓reduceIte, Int.reduceAdd, Int.reduceEq, Int.reduceLE, Int.reduceLT, Int.reduceMul, Int.reduceNeg, Int.reducePow, Int.reduceSub, Int.reduceToNat, Nat.reduceAdd, Nat.reduceEqDiff, Nat.reduceLT, Nat.reduceLeDiff, Nat.reduceMul, reduceCtorEq, s14], by omega, by omega, by simpa using g4⟩ ?_
  rintro t ρ5 w5 hf5 ⟨j, C, k113, k14', hj2, rfl, G⟩ N5 hN5
  have s111 : ρ5 111 = .slice A ls.length c := by rw [hf5 111 rfl]; simp (disch := omega) only [wu64, wu32, wu8, fdiv_nn, EO, ↓EP, EQ, EM, ↓reduceIte, Int.reduceAdd, Int.reduceEq, Int.reduceLE, Int.reduceLT, Int.reduceMul, Int.reduceNeg, Int.reducePow, Int.reduceSub, Int.reduceToNat, Nat.reduceAdd, Nat.reduceEqDiff, Nat.reduceLT, Nat.reduceLeDiff, Nat.reduceMul, reduceCtorEq, s3]
  have s112 : ρ5 112 = .int .i64 ls.length := by rw [hf5 112 rfl]; simp (disch := omega) only [wu64, wu32, wu8, fdiv_nn, EO, ↓EP, EQ, EM, ↓reduceIte, Int.reduceAdd, Int.reduceEq, Int.reduceLE, Int.reduceLT, Int.reduceMul, Int.reduceNeg, Int.reducePow, Int.reduceSub, Int.reduceToNat, Nat.reduceAdd, Nat.reduceEqDiff, Nat.reduceLT, Nat.reduceLeDiff, Nat.reduceMul, reduceCtorEq, s3]
  clear hf5
  by_cases hjl2 : (j : Int) < (ls.length : Int)
  · obtain ⟨ad, dA, dc, rfl, _, cj, hdc, hdr⟩ := (hX.nb G.fr).at (i := j) (by omega)
    have hts := tot_succ (ls := ls) (j := j) (by omega)
    have htl := tot_le ls (j + 1)
    have hfl := flat_len ls j
    simp (disch := omega) only [wu64, wu32, wu8, fdiv_nn, EO, ↓EP, EQ, EM, ↓reduceIte, Int.reduceAdd, Int.reduceEq, Int.reduceLE, Int.reduceLT, Int.reduceMul, Int.reduceNeg, Int.reducePow, Int.reduceSub, Int.reduceToNat, Nat.reduceAdd, Nat.reduceEqDiff, Nat.reduceLT, Nat.reduceLeDiff, Nat.reduceMul, reduceCtorEq, k113, k14', s111, s112, cj]
    refine app_num G.sl rfl hdr (by simp only [List.length_append]; omega) (by omega) fun v6 w6 a6 => ?_
    have g6 := G.apd a6
    rw [List.append_assoc, ← flat_succ (by omega)] at g6
    simp (disch := omega) only [wu64, wu32, wu8, fdiv_nn, EO, ↓EP, EQ, EM, ↓reduceIte, Int.reduceAdd, Int.reduceEq, Int.reduceLE, Int.reduceLT, Int.reduceMul, Int.reduceNeg, Int.reducePow, Int.reduceSub, Int.reduceToNat, Nat.reduceAdd, Nat.reduceEqDiff, Nat.reduceLT, Nat.reduceLeDiff, Nat.reduceMul, reduceCtorEq, k113]
    exact hN5 (ls.length - (j + 1)) _ _ (by omega) ⟨j + 1, v6, by simp (disch := omega) only [wu64, wu32, wu8, fdiv_nn, EO, ↓EP, EQ, EM, ↓reduceIte, Int.reduceAdd, Int.reduceEq, Int.reduceLE, Int.reduceLT, Int.reduceMul, Int.reduceNeg, Int.reducePow, Int.reduceSub, Int.reduceToNat, Nat.reduceAdd, Nat.reduceEqDiff, Nat.reduceLT, Nat.reduceLeDiff, Nat.reduceMul, reduceCtorEq, k113, Int.natCast_add], by simp (disch := omega) only [wu64, wu32, wu8, fdiv_nn, EO, ↓EP, EQ, EM, ↓reduceIte, Int.reduceAdd, Int.reduceEq, Int.reduceLE, Int.reduceLT, Int.reduceMul, Int.reduceNeg, Int.reducePow, Int.reduceSub, Int.reduceToNat, Nat.reduceAdd, Nat.reduceEqDiff, Nat.reduceLT, Nat.reduceLeDiff, Nat.reduceMul, reduceCtorEq], by omega, rfl, g6⟩
  · have hje : j = ls.length := by omega
    subst hje
    rw [List.take_of_length_le (Nat.le_refl _)] at G
    simp (disch := omega) only [wu64, wu32, wu8, fdiv_nn, EO, ↓EP, EQ, EM, ↓reduceIte, Int.reduceAdd, Int.reduceEq, Int.reduceLE, Int.reduceLT, Int.reduceMul, Int.reduceNeg, Int.reducePow, Int.reduceSub, Int.reduceToNat, Nat.reduceAdd, Nat.reduceEqDiff, Nat.reduceLT, Nat.reduceLeDiff, Nat.reduceMul, reduceCtorEq, k113, k14', s112]
    exact hK _ w5 G
end Go.Proofs.YtcgplgpdcfocpaaDoor.Der
end
section
set_option linter.unusedVariables false
set_option linter.unusedSimpArgs false
namespace Go.Proofs.YtcgplgpdcfocpaaDoor.Der
open Go Go.RowKit Go.Proofs Go.Proofs.YtcgplgpdcfocpaaDoor.Eng Go.Proofs.YtcgplgpdcfocpaaDoor.Code
set_option maxRecDepth 100000
attribute [local irreducible] callK S.W opsW scrW scrT
end Go.Proofs.YtcgplgpdcfocpaaDoor.Der
end
section
set_option linter.unusedVariables false
set_option linter.unusedSimpArgs false
namespace Go.Proofs.YtcgplgpdcfocpaaDoor.Der
open Go Go.RowKit Go.Proofs Go.Proofs.YtcgplgpdcfocpaaDoor.Eng Go.Proofs.YtcgplgpdcfocpaaDoor.Code
set_option maxRecDepth 100000
attribute [local irreducible] callK S.W opsW scrW scrT
structure Two (W w : World) (D : Value) (ld : List Int) (R : Value) (lr : List Int) : Prop where
  gd : Gw .u8 W w D ld
  gr : Gw .u8 W w R lr
  ap : ∀ b, blkOf D = some b → blkOf R ≠ some b
theorem Two.step {W w w' : World} {D R : Value} {ld lr : List Int} (t : Two W w D ld R lr) (f : Fr w w' nob) : Two W w' D ld R lr := ⟨t.gd.step f, t.gr.step f, t.ap⟩
end Go.Proofs.YtcgplgpdcfocpaaDoor.Der
end
section
set_option linter.unusedVariables false
set_option linter.unusedSimpArgs false
namespace Go.Proofs.YtcgplgpdcfocpaaDoor.Der
open Go Go.RowKit Go.Proofs Go.Proofs.YtcgplgpdcfocpaaDoor.Eng Go.Proofs.YtcgplgpdcfocpaaDoor.Code
set_option maxRecDepth 100000
attribute [local irreducible] callK S.W opsW scrW scrT
end Go.Proofs.YtcgplgpdcfocpaaDoor.Der
end
section
set_option linter.unusedVariables false
set_option linter.unusedSimpArgs false
namespace Go.Proofs.YtcgplgpdcfocpaaDoor.Der
open Go Go.RowKit Go.Proofs Go.Proofs.YtcgplgpdcfocpaaDoor.Eng Go.Proofs.YtcgplgpdcfocpaaDoor.Code
set_option maxRecDepth 100000
attribute [local irreducible] callK S.W opsW scrW scrT
def ints (u : List UInt8) : List Int := u.map fun b => (b.toNat : Int)
theorem ints_len (u : List UInt8) : (ints u).length = u.length := by simp [ints]
theorem ints_at {u : List UInt8} {i : Nat} (h : i < u.length) : at' (ints u) (i : Int) = ((u[i]).toNat : Int) := by
  rw [atN, List.getD_eq_getElem?_getD, ints, List.getElem?_map, List.getElem?_eq_getElem h]; rfl
theorem S_get {u : List UInt8} {i : Nat} (h : i < (S u).size) : (S u)[i]'h = u[i]'(by rwa [S_size] at h) := by
  simp [S, ByteArray.getElem_eq_getElem_data]
theorem dec_low {u : List UInt8} {i : Nat} (h : i < u.length) (ha : (u[i]).toNat < 128) : Utf8.decode (S u) i = ((u[i]).toNat, 1) := by
  have h' : i < (S u).size := by rwa [S_size]
  rw [decode_ascii (S u) i h' (by rw [S_get]; exact ha), S_get]
theorem dec_high {u : List UInt8} {i : Nat} (h : i < u.length) (ha : 128 ≤ (u[i]).toNat) : 128 ≤ (Utf8.decode (S u) i).1 := by
  have h' : i < (S u).size := by rwa [S_size]
  have e : (S u).get! (i + 0) = u[i] := by
    refine Eq.trans ?_ (S_get h')
    show (S u).get! i = _
    simp [ByteArray.get!, getElem!_pos, h']
    rfl
  unfold Utf8.decode
  simp only [e, show ¬ (u[i]).toNat < 128 by omega, if_false]
  split
  · split
    · assumption
    · decide
  · split
    · split
      · rename_i hh
        simp at hh
        simp only
        omega
      · decide
    · split
      · split
        · rename_i hh
          simp at hh
          simp only
          omega
        · decide
      · decide
theorem fr_it (w : World) (ib : Nat) (o : Obj) : Fr w { w with heap := w.heap.setIfInBounds ib o } (fun b => b = ib) :=
  ⟨⟨rfl, rfl, rfl, by simp, fun k hk => by omega⟩, fun b _ hb => by
    show (w.heap.setIfInBounds ib o)[b]? = w.heap[b]?
    rw [Array.getElem?_setIfInBounds_ne (fun e => hb e.symm)]⟩
theorem nxs_k {w : World} {ib pos c k : Nat} {s : ByteArray} {K : Value → World → Prop} {t : Eng.Tok K} (h : w.heap[ib]? = some (.stringIter s pos)) (hp : pos < s.size) (hd : Utf8.decode s pos = (c, k))
    (hK : ∀ w', Fr w w' (fun b => b = ib) → w'.heap[ib]? = some (.stringIter s (pos + k)) → K (.tuple #[.bool true, .int .i64 pos, .int .i32 c]) w') : nxsT ⟨ib, 0, none⟩ w K t := by
  refine ⟨rfl, s, pos, h, fun _ => ?_, fun h' => by omega⟩
  rw [hd]
  refine hK _ (fr_it w ib _) ?_
  have hib := (Array.getElem?_eq_some_iff.1 h).1
  show (w.heap.setIfInBounds ib _)[ib]? = _
  rw [Array.getElem?_setIfInBounds_self_of_lt hib]
theorem nxs_end {w : World} {ib pos : Nat} {s : ByteArray} {K : Value → World → Prop} {t : Eng.Tok K} (h : w.heap[ib]? = some (.stringIter s pos)) (hp : s.size ≤ pos)
    (hK : K (.tuple #[.bool false]) w) : nxsT ⟨ib, 0, none⟩ w K t := ⟨rfl, s, pos, h, fun h' => by omega, fun _ => hK⟩
theorem it_heap (w : World) (o : Obj) : (w.alloc o).heap = w.heap.push o := rfl
theorem it_fr (w : World) (o : Obj) : Fr w (w.alloc o) nob := by
  refine ⟨⟨rfl, rfl, rfl, ?_, fun k hk => by omega⟩, fun b hb _ => ?_⟩
  · rw [it_heap, Array.size_push]; omega
  · rw [it_heap, Array.getElem?_push_lt hb, Array.getElem?_eq_getElem hb]
theorem it_lt (w : World) (o : Obj) : w.heap.size < (w.alloc o).heap.size := by rw [it_heap, Array.size_push]; omega
theorem rgs_k {w : World} {s : ByteArray} {K : Value → World → Prop} {t : Eng.Tok K} (hK : ∀ w', Fr w w' nob → w'.heap[w.heap.size]? = some (.stringIter s 0) → w.heap.size < w'.heap.size → K (.pointer (some ⟨w.heap.size, 0, none⟩)) w') : rgsT s w K t :=
  hK _ (it_fr w _) (World.iter_heap w s 0) (it_lt w _)
theorem pos_cellsK {k : IntKind} {w : World} {A : Option Addr} {l : List Int} (hr : Rd w A (nums k l)) (h0 : 0 < l.length) : ∃ ad, A = some ad ∧ ∀ i : Nat, i < l.length → w.cell? (ad.add i) = some (.int k (at' l (i : Int))) := by
  obtain ⟨ad, e, _, hcl⟩ := hr.get (by rw [nums_length]; omega)
  exact ⟨ad, e, fun i hi => hcl.numN hi⟩
def prb (v : Value) (b : Bool) : Value := .tuple #[v, .bool b]
set_option maxHeartbeats 2000000 in
theorem arcs_vw {w : World} {u : List UInt8} (hm : u.length ≤ 1073741824) (K : Value → World → Prop)
    (hK : ∀ v' w', Gw .u64 w w' v' ((arcsR (ints u)).getD []) → K (prb v' (arcsR (ints u)).isSome) w') : callK Tryd.prog 85 [.string (S u)] w K := by
  refine call_of Tryd.func85 Code.h85 (by simp [Code.c85]) ?_
  have htl : (u ++ [46]).length = u.length + 1 := by simp
  have hti : ints (u ++ [46]) = ints u ++ [46] := by simp [ints]
  unfold arcsR at hK
  rw [← hti] at hK
  simp (disch := omega) only [wu64, wu32, wu8, fdiv_nn, EO, ↓EP, EQ, EM, ↓reduceIte, Int.reduceAdd, Int.reduceEq, Int.reduceLE, Int.reduceLT, Int.reduceMul, Int.reduceNeg, Int.reducePow, Int.reduceSub, Int.reduceToNat, Nat.reduceAdd, Nat.reduceEqDiff, Nat.reduceLT, Nat.reduceLeDiff, Nat.reduceMul, reduceCtorEq, Code.c85, b_sadd, ← S_dot, S_append, S_size, List.length_cons, List.length_nil]
  refine rgs_k fun w1 f1 hit hlt => ?_
  generalize hib : w.heap.size = ib at hit hlt
  generalize hT : u ++ [46] = T at hK htl hit
  simp (disch := omega) only [wu64, wu32, wu8, fdiv_nn, EO, ↓EP, EQ, EM, ↓reduceIte, Int.reduceAdd, Int.reduceEq, Int.reduceLE, Int.reduceLT, Int.reduceMul, Int.reduceNeg, Int.reducePow, Int.reduceSub, Int.reduceToNat, Nat.reduceAdd, Nat.reduceEqDiff, Nat.reduceLT, Nat.reduceLeDiff, Nat.reduceMul, reduceCtorEq]
  refine loop_inv (fun t ρ w2 => ∃ (pos : Nat) (l : List Int) (v : Int) (n : Nat) (X : Value), w2.heap[ib]? = some (.stringIter (S T) pos) ∧ ρ 4 = X ∧ ρ 5 = .int .u64 v ∧ ρ 6 = .int .i64 n ∧ pos ≤ T.length ∧ t = T.length - pos ∧ 0 ≤ v ∧ v ≤ 1099511627776 ∧ n ≤ 20 ∧ l.length ≤ pos ∧ Gw .u64 w w2 X l ∧ (∀ b, blkOf X = some b → b ≠ ib) ∧ (∀ x ∈ l, 0 ≤ x ∧ x ≤ 1099511627776) ∧ arcsGo ((ints T).drop pos) l v n = arcsGo (ints T) [] 0 0) T.length ⟨0, [], 0, 0, _, hit, by simp (disch := omega) only [wu64, wu32, wu8, fdiv_nn, EO, ↓EP, EQ, EM, ↓reduceIte, Int.reduceAdd, Int.reduceEq, Int.reduceLE, Int.reduceLT, Int.reduceMul, Int.reduceNeg, Int.reducePow, Int.reduceSub, Int.reduceToNat, Nat.reduceAdd, Nat.reduceEqDiff, Nat.reduceLT, Nat.reduceLeDiff, Nat.reduceMul, reduceCtorEq], by simp (disch := omega) only [wu64, wu32, wu8, fdiv_nn, EO, ↓EP, EQ, EM, ↓reduceIte, Int.reduceAdd, Int.reduceEq, Int.reduceLE, Int.reduceLT, Int.reduceMul, Int.reduceNeg, Int.reducePow, Int.reduceSub, Int.reduceToNat, Nat.reduceAdd, Nat.reduceEqDiff, Nat.reduceLT, Nat.reduceLeDiff, Nat.reduceMul, reduceCtorEq], by simp (disch := omega) only [wu64, wu32, wu8, fdiv_nn, EO, ↓EP, EQ, EM, ↓reduceIte, Int.reduceAdd, Int.reduceEq, Int.reduceLE, Int.reduceLT, Int.reduceMul, Int.reduceNeg, Int.reducePow, Int.reduceSub, Int.reduceToNat, Nat.reduceAdd, Nat.reduceEqDiff, Nat.reduceLT, Nat.reduceLeDiff, Nat.reduceMul, reduceCtorEq], by omega, by omega, by omega, by omega, by omega, by simp, (Gw.nil .u64 w).step f1, fun b e => (by cases e), by simp, rfl⟩ ?_
  rintro t ρ w2 hf ⟨pos, l, v, n, X, hit2, h4, h5, h6, hp, rfl, hv, hv', hn, hll, g, hX, hlm, hgo⟩ N hN
  have r11 : ρ 11 = .pointer (some ⟨ib, 0, none⟩) := by rw [hf 11 rfl]; simp (disch := omega) only [wu64, wu32, wu8, fdiv_nn, EO, ↓EP, EQ, EM, ↓reduceIte, Int.reduceAdd, Int.reduceEq, Int.reduceLE, Int.reduceLT, Int.reduceMul, Int.reduceNeg, Int.reducePow, Int.reduceSub, Int.reduceToNat, Nat.reduceAdd, Nat.reduceEqDiff, Nat.reduceLT, Nat.reduceLeDiff, Nat.reduceMul, reduceCtorEq]
  clear hf
  have hlt2 : ib < w2.heap.size := (Array.getElem?_eq_some_iff.1 hit2).1
  by_cases hpl : pos < T.length
  · have htp := ints_at hpl
    rw [drop_at (show pos < (ints T).length by rw [ints_len]; exact hpl), arcsGo, htp] at hgo
    have hcb := (T[pos]).toNat_lt
    by_cases hc : (T[pos]).toNat < 128
    · have hd := dec_low hpl hc
      generalize (T[pos]).toNat = c at *
      simp (disch := omega) only [wu64, wu32, wu8, fdiv_nn, EO, ↓EP, EQ, EM, ↓reduceIte, Int.reduceAdd, Int.reduceEq, Int.reduceLE, Int.reduceLT, Int.reduceMul, Int.reduceNeg, Int.reducePow, Int.reduceSub, Int.reduceToNat, Nat.reduceAdd, Nat.reduceEqDiff, Nat.reduceLT, Nat.reduceLeDiff, Nat.reduceMul, reduceCtorEq, r11]
      refine nxs_k hit2 (by rw [S_size]; exact hpl) hd fun w3 f3 hit3 => ?_
      have g3 := g.other f3 hX (fun b hb => by omega)
      by_cases h46 : c = 46 ∧ 0 < n
      · rw [if_pos ⟨by omega, h46.2⟩] at hgo
        have h6' : (0 : Int) < (n : Int) := by omega
        rw [h46.1]
        simp (disch := omega) only [wu64, wu32, wu8, fdiv_nn, EO, ↓EP, EQ, EM, ↓reduceIte, Int.reduceAdd, Int.reduceEq, Int.reduceLE, Int.reduceLT, Int.reduceMul, Int.reduceNeg, Int.reducePow, Int.reduceSub, Int.reduceToNat, Nat.reduceAdd, Nat.reduceEqDiff, Nat.reduceLT, Nat.reduceLeDiff, Nat.reduceMul, reduceCtorEq, W_join, h4, h5, h6]
        refine bsl1 fun w4 n4 => ?_
        have g4 := g3.new n4
        simp (disch := omega) only [wu64, wu32, wu8, fdiv_nn, EO, ↓EP, EQ, EM, ↓reduceIte, Int.reduceAdd, Int.reduceEq, Int.reduceLE, Int.reduceLT, Int.reduceMul, Int.reduceNeg, Int.reducePow, Int.reduceSub, Int.reduceToNat, Nat.reduceAdd, Nat.reduceEqDiff, Nat.reduceLT, Nat.reduceLeDiff, Nat.reduceMul, reduceCtorEq, W_join, h4, h5, h6]
        refine app_num g4.sl rfl n4.rdv (by simp; omega) (by omega) fun v5 w5 a5 => ?_
        have g5 := g4.apd a5
        have hit5 : w5.heap[ib]? = some (.stringIter (S T) (pos + 1)) := by
          have b3 : ib < w3.heap.size := Nat.lt_of_lt_of_le hlt2 f3.size
          rw [a5.fr.block ib (Nat.lt_of_lt_of_le b3 (n4.fr nob).size) (fun e => hX ib e rfl), (n4.fr nob).block ib b3 (fun e => e)]
          exact hit3
        simp (disch := omega) only [wu64, wu32, wu8, fdiv_nn, EO, ↓EP, EQ, EM, ↓reduceIte, Int.reduceAdd, Int.reduceEq, Int.reduceLE, Int.reduceLT, Int.reduceMul, Int.reduceNeg, Int.reducePow, Int.reduceSub, Int.reduceToNat, Nat.reduceAdd, Nat.reduceEqDiff, Nat.reduceLT, Nat.reduceLeDiff, Nat.reduceMul, reduceCtorEq, W_join, h4, h5, h6]
        refine hN (T.length - (pos + 1)) _ _ (by omega) ⟨pos + 1, l ++ [v], 0, 0, v5, hit5, by simp (disch := omega) only [wu64, wu32, wu8, fdiv_nn, EO, ↓EP, EQ, EM, ↓reduceIte, Int.reduceAdd, Int.reduceEq, Int.reduceLE, Int.reduceLT, Int.reduceMul, Int.reduceNeg, Int.reducePow, Int.reduceSub, Int.reduceToNat, Nat.reduceAdd, Nat.reduceEqDiff, Nat.reduceLT, Nat.reduceLeDiff, Nat.reduceMul, reduceCtorEq], by simp (disch := omega) only [wu64, wu32, wu8, fdiv_nn, EO, ↓EP, EQ, EM, ↓reduceIte, Int.reduceAdd, Int.reduceEq, Int.reduceLE, Int.reduceLT, Int.reduceMul, Int.reduceNeg, Int.reducePow, Int.reduceSub, Int.reduceToNat, Nat.reduceAdd, Nat.reduceEqDiff, Nat.reduceLT, Nat.reduceLeDiff, Nat.reduceMul, reduceCtorEq], by simp (disch := omega) only [wu64, wu32, wu8, fdiv_nn, EO, ↓EP, EQ, EM, ↓reduceIte, Int.reduceAdd, Int.reduceEq, Int.reduceLE, Int.reduceLT, Int.reduceMul, Int.reduceNeg, Int.reducePow, Int.reduceSub, Int.reduceToNat, Nat.reduceAdd, Nat.reduceEqDiff, Nat.reduceLT, Nat.reduceLeDiff, Nat.reduceMul, reduceCtorEq], by omega, rfl, by omega, by omega, by omega, by simp; omega, g5, fun b e => ?_, ?_, hgo⟩
        · rcases a5.where_ with hw | hw
          · exact hX b (hw ▸ e)
          · have := hw b e
            have := (n4.fr nob).size
            have := f3.size
            omega
        · intro x hx
          rw [List.mem_append] at hx
          rcases hx with hx | hx
          · exact hlm x hx
          · simp at hx; omega
      · rw [if_neg (fun h => h46 ⟨by omega, h.2⟩)] at hgo
        by_cases hbad : (c : Int) < 48 ∨ 57 < (c : Int) ∨ (n = 1 ∧ v = 0)
        · rw [if_pos hbad] at hgo
          rw [← hgo] at hK
          have fin := hK _ w3 ((Gw.nil .u64 w).step g3.fr)
          by_cases hc46 : c = 46
          · have hn0 : n = 0 := by
              apply Nat.eq_zero_of_not_pos
              exact fun h => h46 ⟨hc46, h⟩
            subst hn0
            rw [hc46]
            simp (disch := omega) only [wu64, wu32, wu8, fdiv_nn, EO, ↓EP, EQ, EM, ↓reduceIte, Int.reduceAdd, Int.reduceEq, Int.reduceLE, Int.reduceLT, Int.reduceMul, Int.reduceNeg, Int.reducePow, Int.reduceSub, Int.reduceToNat, Nat.reduceAdd, Nat.reduceEqDiff, Nat.reduceLT, Nat.reduceLeDiff, Nat.reduceMul, reduceCtorEq, W_join, h4, h5, h6, Int.natCast_zero]
            exact fin
          · have hc46' : ((c : Int) = 46) = False := eq_false (by omega)
            by_cases h1 : (c : Int) < 48
            · simp (disch := omega) only [wu64, wu32, wu8, fdiv_nn, EO, ↓EP, EQ, EM, ↓reduceIte, Int.reduceAdd, Int.reduceEq, Int.reduceLE, Int.reduceLT, Int.reduceMul, Int.reduceNeg, Int.reducePow, Int.reduceSub, Int.reduceToNat, Nat.reduceAdd, Nat.reduceEqDiff, Nat.reduceLT, Nat.reduceLeDiff, Nat.reduceMul, reduceCtorEq, W_join, h4, h5, h6, hc46']
              exact fin
            · by_cases h2 : 57 < (c : Int)
              · simp (disch := omega) only [wu64, wu32, wu8, fdiv_nn, EO, ↓EP, EQ, EM, ↓reduceIte, Int.reduceAdd, Int.reduceEq, Int.reduceLE, Int.reduceLT, Int.reduceMul, Int.reduceNeg, Int.reducePow, Int.reduceSub, Int.reduceToNat, Nat.reduceAdd, Nat.reduceEqDiff, Nat.reduceLT, Nat.reduceLeDiff, Nat.reduceMul, reduceCtorEq, W_join, h4, h5, h6, hc46']
                exact fin
              · have h3 : n = 1 ∧ v = 0 := by omega
                rw [h3.1] at h6
                rw [h3.2] at h5
                simp (disch := omega) only [wu64, wu32, wu8, fdiv_nn, EO, ↓EP, EQ, EM, ↓reduceIte, Int.reduceAdd, Int.reduceEq, Int.reduceLE, Int.reduceLT, Int.reduceMul, Int.reduceNeg, Int.reducePow, Int.reduceSub, Int.reduceToNat, Nat.reduceAdd, Nat.reduceEqDiff, Nat.reduceLT, Nat.reduceLeDiff, Nat.reduceMul, reduceCtorEq, W_join, h4, h5, h6, hc46', Int.natCast_one]
                exact fin
        · rw [if_neg hbad] at hgo
          have hc46' : ((c : Int) = 46) = False := eq_false (by omega)
          have hw1 : IntKind.i32.wrap ((c : Int) - 48) = (c : Int) - 48 := by
            unfold IntKind.wrap IntKind.bits IntKind.signed
            simp only [Bool.true_and, decide_eq_true_eq]
            split <;> omega
          have hw2 : IntKind.u64.wrap ((c : Int) - 48) = (c : Int) - 48 := wu64 (by omega) (by omega)
          have hst : (if 1099511627776 < 10 * v + ((c : Int) - 48) then (1099511627776 : Int) else 10 * v + ((c : Int) - 48)) = satA (10 * v + ((c : Int) - 48)) := rfl
          have sb := satA_bd (v := 10 * v + ((c : Int) - 48)) (by omega)
          have hmn : (if 20 < (n : Int) + 1 then (20 : Int) else (n : Int) + 1) = ((min (n + 1) 20 : Nat) : Int) := by split <;> omega
          by_cases h1 : n = 1
          · have hv0 : (v = 0) = False := eq_false (fun h => hbad (.inr (.inr ⟨h1, h⟩)))
            rw [h1] at h6
            subst h1
            simp (disch := omega) only [wu64, wu32, wu8, fdiv_nn, EO, ↓EP, EQ, EM, ↓reduceIte, Int.reduceAdd, Int.reduceEq, Int.reduceLE, Int.reduceLT, Int.reduceMul, Int.reduceNeg, Int.reducePow, Int.reduceSub, Int.reduceToNat, Nat.reduceAdd, Nat.reduceEqDiff, Nat.reduceLT, Nat.reduceLeDiff, Nat.reduceMul, reduceCtorEq, W_join, h4, h5, h6, hc46', hw1, hw2, hv0, Int.natCast_one]
            exact hN (T.length - (pos + 1)) _ _ (by omega) ⟨pos + 1, l, _, _, X, hit3, by simp (disch := omega) only [wu64, wu32, wu8, fdiv_nn, EO, ↓EP, EQ, EM, ↓reduceIte, Int.reduceAdd, Int.reduceEq, Int.reduceLE, Int.reduceLT, Int.reduceMul, Int.reduceNeg, Int.reducePow, Int.reduceSub, Int.reduceToNat, Nat.reduceAdd, Nat.reduceEqDiff, Nat.reduceLT, Nat.reduceLeDiff, Nat.reduceMul, reduceCtorEq, h4], by simp (disch := omega) only [wu64, wu32, wu8, fdiv_nn, EO, ↓EP, EQ, EM, ↓reduceIte, Int.reduceAdd, Int.reduceEq, Int.reduceLE, Int.reduceLT, Int.reduceMul, Int.reduceNeg, Int.reducePow, Int.reduceSub, Int.reduceToNat, Nat.reduceAdd, Nat.reduceEqDiff, Nat.reduceLT, Nat.reduceLeDiff, Nat.reduceMul, reduceCtorEq, hw1, hw2, hst], by simp (disch := omega) only [wu64, wu32, wu8, fdiv_nn, EO, ↓EP, EQ, EM, ↓reduceIte, Int.reduceAdd, Int.reduceEq, Int.reduceLE, Int.reduceLT, Int.reduceMul, Int.reduceNeg, Int.reducePow, Int.reduceSub, Int.reduceToNat, Nat.reduceAdd, Nat.reduceEqDiff, Nat.reduceLT, Nat.reduceLeDiff, Nat.reduceMul, reduceCtorEq], by omega, rfl, sb.1, sb.2, by omega, by omega, g3, hX, hlm, hgo⟩
          · have h1' : ((n : Int) = 1) = False := eq_false (by omega)
            simp (disch := omega) only [wu64, wu32, wu8, fdiv_nn, EO, ↓EP, EQ, EM, ↓reduceIte, Int.reduceAdd, Int.reduceEq, Int.reduceLE, Int.reduceLT, Int.reduceMul, Int.reduceNeg, Int.reducePow, Int.reduceSub, Int.reduceToNat, Nat.reduceAdd, Nat.reduceEqDiff, Nat.reduceLT, Nat.reduceLeDiff, Nat.reduceMul, reduceCtorEq, W_join, h4, h5, h6, hc46', hw1, hw2, h1']
            exact hN (T.length - (pos + 1)) _ _ (by omega) ⟨pos + 1, l, _, _, X, hit3, by simp (disch := omega) only [wu64, wu32, wu8, fdiv_nn, EO, ↓EP, EQ, EM, ↓reduceIte, Int.reduceAdd, Int.reduceEq, Int.reduceLE, Int.reduceLT, Int.reduceMul, Int.reduceNeg, Int.reducePow, Int.reduceSub, Int.reduceToNat, Nat.reduceAdd, Nat.reduceEqDiff, Nat.reduceLT, Nat.reduceLeDiff, Nat.reduceMul, reduceCtorEq, h4], by simp (disch := omega) only [wu64, wu32, wu8, fdiv_nn, EO, ↓EP, EQ, EM, ↓reduceIte, Int.reduceAdd, Int.reduceEq, Int.reduceLE, Int.reduceLT, Int.reduceMul, Int.reduceNeg, Int.reducePow, Int.reduceSub, Int.reduceToNat, Nat.reduceAdd, Nat.reduceEqDiff, Nat.reduceLT, Nat.reduceLeDiff, Nat.reduceMul, reduceCtorEq, hw1, hw2, hst], by simp (disch := omega) only [wu64, wu32, wu8, fdiv_nn, EO, ↓EP, EQ, EM, ↓reduceIte, Int.reduceAdd, Int.reduceEq, Int.reduceLE, Int.reduceLT, Int.reduceMul, Int.reduceNeg, Int.reducePow, Int.reduceSub, Int.reduceToNat, Nat.reduceAdd, Nat.reduceEqDiff, Nat.reduceLT, Nat.reduceLeDiff, Nat.reduceMul, reduceCtorEq, hmn], by omega, rfl, sb.1, sb.2, by omega, by omega, g3, hX, hlm, hgo⟩
    · have hh := dec_high hpl (by omega)
      rw [if_neg (fun h => by omega), if_pos (.inr (.inl (by omega)))] at hgo
      rw [← hgo] at hK
      obtain ⟨C, k, hd⟩ : ∃ C k, Utf8.decode (S T) pos = (C, k) := ⟨_, _, rfl⟩
      rw [hd] at hh
      simp only at hh
      simp (disch := omega) only [wu64, wu32, wu8, fdiv_nn, EO, ↓EP, EQ, EM, ↓reduceIte, Int.reduceAdd, Int.reduceEq, Int.reduceLE, Int.reduceLT, Int.reduceMul, Int.reduceNeg, Int.reducePow, Int.reduceSub, Int.reduceToNat, Nat.reduceAdd, Nat.reduceEqDiff, Nat.reduceLT, Nat.reduceLeDiff, Nat.reduceMul, reduceCtorEq, r11]
      refine nxs_k hit2 (by rw [S_size]; exact hpl) hd fun w3 f3 hit3 => ?_
      have g3 := g.other f3 hX (fun b hb => by omega)
      have fin := hK _ w3 ((Gw.nil .u64 w).step g3.fr)
      have hc46' : ((C : Int) = 46) = False := eq_false (by omega)
      simp (disch := omega) only [wu64, wu32, wu8, fdiv_nn, EO, ↓EP, EQ, EM, ↓reduceIte, Int.reduceAdd, Int.reduceEq, Int.reduceLE, Int.reduceLT, Int.reduceMul, Int.reduceNeg, Int.reducePow, Int.reduceSub, Int.reduceToNat, Nat.reduceAdd, Nat.reduceEqDiff, Nat.reduceLT, Nat.reduceLeDiff, Nat.reduceMul, reduceCtorEq, W_join, h4, h5, h6, hc46']
      exact fin
  · have hpe : pos = T.length := by omega
    rw [hpe, show T.length = (ints T).length by rw [ints_len], List.drop_length, arcsGo] at hgo
    rw [← hgo] at hK
    simp only at hK
    clear hN hgo
    simp (disch := omega) only [wu64, wu32, wu8, fdiv_nn, EO, ↓EP, EQ, EM, ↓reduceIte, Int.reduceAdd, Int.reduceEq, Int.reduceLE, Int.reduceLT, Int.reduceMul, Int.reduceNeg, Int.reducePow, Int.reduceSub, Int.reduceToNat, Nat.reduceAdd, Nat.reduceEqDiff, Nat.reduceLT, Nat.reduceLeDiff, Nat.reduceMul, reduceCtorEq, r11]
    refine nxs_end hit2 (by rw [S_size]; omega) ?_
    have nil2 := (Gw.nil .u64 w).step g.fr
    obtain ⟨XA, xc, rfl, hxc, hXr⟩ := readn g.sl rfl
    by_cases hl2 : l.length < 2
    · rw [if_pos (.inl hl2)] at hK
      simp (disch := omega) only [wu64, wu32, wu8, fdiv_nn, EO, ↓EP, EQ, EM, ↓reduceIte, Int.reduceAdd, Int.reduceEq, Int.reduceLE, Int.reduceLT, Int.reduceMul, Int.reduceNeg, Int.reducePow, Int.reduceSub, Int.reduceToNat, Nat.reduceAdd, Nat.reduceEqDiff, Nat.reduceLT, Nat.reduceLeDiff, Nat.reduceMul, reduceCtorEq, W_join, h4]
      exact hK _ w2 nil2
    obtain ⟨xa, rfl, cell⟩ := pos_cellsK hXr (by omega)
    have c0 := cell 0 (by omega)
    have c1 := cell 1 (by omega)
    rw [show ((0 : Nat) : Int) = 0 by rfl] at c0
    rw [show ((1 : Nat) : Int) = 1 by rfl] at c1
    by_cases h2 : 2 < at' l 0
    · rw [if_pos (.inr (.inl h2))] at hK
      simp (disch := omega) only [wu64, wu32, wu8, fdiv_nn, EO, ↓EP, EQ, EM, ↓reduceIte, Int.reduceAdd, Int.reduceEq, Int.reduceLE, Int.reduceLT, Int.reduceMul, Int.reduceNeg, Int.reducePow, Int.reduceSub, Int.reduceToNat, Nat.reduceAdd, Nat.reduceEqDiff, Nat.reduceLT, Nat.reduceLeDiff, Nat.reduceMul, reduceCtorEq, W_join, h4, c0, c1]
      exact hK _ w2 nil2
    by_cases h3 : at' l 0 < 2
    · by_cases h40 : 40 ≤ at' l 1
      · rw [if_pos (.inr (.inr ⟨h3, h40⟩))] at hK
        simp (disch := omega) only [wu64, wu32, wu8, fdiv_nn, EO, ↓EP, EQ, EM, ↓reduceIte, Int.reduceAdd, Int.reduceEq, Int.reduceLE, Int.reduceLT, Int.reduceMul, Int.reduceNeg, Int.reducePow, Int.reduceSub, Int.reduceToNat, Nat.reduceAdd, Nat.reduceEqDiff, Nat.reduceLT, Nat.reduceLeDiff, Nat.reduceMul, reduceCtorEq, W_join, h4, c0, c1]
        exact hK _ w2 nil2
      · rw [if_neg (fun h => by rcases h with h | h | h; exact hl2 h; exact h2 h; exact h40 h.2)] at hK
        simp (disch := omega) only [wu64, wu32, wu8, fdiv_nn, EO, ↓EP, EQ, EM, ↓reduceIte, Int.reduceAdd, Int.reduceEq, Int.reduceLE, Int.reduceLT, Int.reduceMul, Int.reduceNeg, Int.reducePow, Int.reduceSub, Int.reduceToNat, Nat.reduceAdd, Nat.reduceEqDiff, Nat.reduceLT, Nat.reduceLeDiff, Nat.reduceMul, reduceCtorEq, W_join, h4, c0, c1]
        exact hK _ w2 g
    · rw [if_neg (fun h => by rcases h with h | h | h; exact hl2 h; exact h2 h; exact h3 h.1)] at hK
      simp (disch := omega) only [wu64, wu32, wu8, fdiv_nn, EO, ↓EP, EQ, EM, ↓reduceIte, Int.reduceAdd, Int.reduceEq, Int.reduceLE, Int.reduceLT, Int.reduceMul, Int.reduceNeg, Int.reducePow, Int.reduceSub, Int.reduceToNat, Nat.reduceAdd, Nat.reduceEqDiff, Nat.reduceLT, Nat.reduceLeDiff, Nat.reduceMul, reduceCtorEq, W_join, h4, c0, c1]
      exact hK _ w2 g
end Go.Proofs.YtcgplgpdcfocpaaDoor.Der
end
section
set_option linter.unusedVariables false
set_option linter.unusedSimpArgs false
namespace Go.Proofs.YtcgplgpdcfocpaaDoor.Der
open Go Go.RowKit Go.Proofs Go.Proofs.YtcgplgpdcfocpaaDoor.Eng Go.Proofs.YtcgplgpdcfocpaaDoor.Code
set_option maxRecDepth 100000
attribute [local irreducible] callK S.W opsW scrW scrT
theorem arcsGo_bd : ∀ (s l : List Int) (v : Int) (n : Nat) (r : List Int), arcsGo s l v n = some r → 0 ≤ v → v ≤ 1099511627776 → (∀ x ∈ l, 0 ≤ x ∧ x ≤ 1099511627776) →
    (∀ x ∈ r, 0 ≤ x ∧ x ≤ 1099511627776) ∧ r.length ≤ l.length + s.length
  | [], l, v, n, r, h, h1, h2, h3 => by
    simp only [arcsGo, Option.some.injEq] at h
    subst h
    exact ⟨h3, by simp⟩
  | c :: s, l, v, n, r, h, h1, h2, h3 => by
    rw [arcsGo] at h
    split at h
    · have := arcsGo_bd s _ _ _ r h (by omega) (by omega) (fun x hx => by
        rw [List.mem_append] at hx
        rcases hx with hx | hx
        · exact h3 x hx
        · simp at hx; omega)
      refine ⟨this.1, ?_⟩
      have h4 := this.2
      simp at h4 ⊢; omega
    · split at h
      · simp at h
      · rename_i h5
        have sb := satA_bd (v := 10 * v + (c - 48)) (by omega)
        have := arcsGo_bd s _ _ _ r h sb.1 sb.2 h3
        refine ⟨this.1, ?_⟩
        have h4 := this.2
        simp at h4 ⊢; omega
theorem arcs_bd {s l : List Int} (h : arcsR s = some l) : (∀ x ∈ l, 0 ≤ x ∧ x ≤ 1099511627776) ∧ l.length ≤ s.length + 1 ∧ 2 ≤ l.length ∧ at' l 0 ≤ 2 := by
  unfold arcsR at h
  cases hh : arcsGo (s ++ [46]) [] 0 0 with
  | none => rw [hh] at h; simp at h
  | some r =>
    rw [hh] at h
    simp only at h
    split at h
    · simp at h
    · rename_i h1
      simp only [Option.some.injEq] at h
      subst h
      have := arcsGo_bd _ _ _ _ _ hh (by omega) (by omega) (by simp)
      refine ⟨this.1, ?_, ?_, ?_⟩
      · have h2 := this.2
        simp at h2; omega
      · apply Nat.le_of_not_lt; exact fun h => h1 (.inl h)
      · apply Int.le_of_not_gt; exact fun h => h1 (.inr (.inl h))
theorem at_mem {l : List Int} {i : Nat} (h : i < l.length) : at' l (i : Int) ∈ l := by
  rw [atN, List.getD_eq_getElem?_getD, List.getElem?_eq_getElem h]
  exact List.getElem_mem h
def sevens (l : List Int) : List Int := l.flatMap fun v => sevenR v.toNat
theorem sevens_snoc (l : List Int) (x : Int) : sevens (l ++ [x]) = sevens l ++ sevenR x.toNat := by simp [sevens]
set_option maxHeartbeats 2000000 in
theorem putoid_vw {w : World} {u : List UInt8} (hm : u.length ≤ 1073741824) (K : Value → World → Prop)
    (hK : ∀ v' w', Gw .u8 w w' v' (putOidR (ints u)).1 → K (pr2 v' (putOidR (ints u)).2) w') : callK Tryd.prog 56 [.string (S u)] w K := by
  refine call_of Tryd.func56 Code.h56 (by simp [Code.c56]) ?_
  simp (disch := omega) only [wu64, wu32, wu8, fdiv_nn, EO, ↓EP, EQ, EM, ↓reduceIte, Int.reduceAdd, Int.reduceEq, Int.reduceLE, Int.reduceLT, Int.reduceMul, Int.reduceNeg, Int.reducePow, Int.reduceSub, Int.reduceToNat, Nat.reduceAdd, Nat.reduceEqDiff, Nat.reduceLT, Nat.reduceLeDiff, Nat.reduceMul, reduceCtorEq, Code.c56]
  refine arcs_vw hm _ fun v1 w1 g1 => ?_
  simp only [prb]
  unfold putOidR at hK
  cases hl : arcsR (ints u) with
  | none =>
    rw [hl] at hK g1
    simp only [Option.isSome_none] at hK ⊢
    simp (disch := omega) only [wu64, wu32, wu8, fdiv_nn, EO, ↓EP, EQ, EM, ↓reduceIte, Int.reduceAdd, Int.reduceEq, Int.reduceLE, Int.reduceLT, Int.reduceMul, Int.reduceNeg, Int.reducePow, Int.reduceSub, Int.reduceToNat, Nat.reduceAdd, Nat.reduceEqDiff, Nat.reduceLT, Nat.reduceLeDiff, Nat.reduceMul, reduceCtorEq, Bool.not_false]
    exact hK _ w1 ((Gw.nil .u8 w).step g1.fr)
  | some l =>
  rw [hl] at hK g1
  simp only [Option.isSome_some, Option.getD_some] at hK g1 ⊢
  obtain ⟨hbd, hll, h2, h02⟩ := arcs_bd hl
  rw [ints_len] at hll
  obtain ⟨A, c, rfl, hc, hr⟩ := readn g1.sl rfl
  obtain ⟨ad, rfl, cell⟩ := pos_cellsK hr (by omega)
  simp (disch := omega) only [wu64, wu32, wu8, fdiv_nn, EO, ↓EP, EQ, EM, ↓reduceIte, Int.reduceAdd, Int.reduceEq, Int.reduceLE, Int.reduceLT, Int.reduceMul, Int.reduceNeg, Int.reducePow, Int.reduceSub, Int.reduceToNat, Nat.reduceAdd, Nat.reduceEqDiff, Nat.reduceLT, Nat.reduceLeDiff, Nat.reduceMul, reduceCtorEq, Bool.not_true]
  refine loop_inv (fun t ρ w' => w' = w1 ∧ ∃ i : Nat, ρ 20 = .int .i64 i ∧ i ≤ l.length ∧ t = l.length - i ∧ (l.drop i).any (fun v => decide (2147483647 < v)) = l.any (fun v => decide (2147483647 < v))) l.length ⟨rfl, 0, by simp (disch := omega) only [wu64, wu32, wu8, fdiv_nn, EO, ↓EP, EQ, EM, ↓reduceIte, Int.reduceAdd, Int.reduceEq, Int.reduceLE, Int.reduceLT, Int.reduceMul, Int.reduceNeg, Int.reducePow, Int.reduceSub, Int.reduceToNat, Nat.reduceAdd, Nat.reduceEqDiff, Nat.reduceLT, Nat.reduceLeDiff, Nat.reduceMul, reduceCtorEq], by omega, by omega, by simp⟩ ?_
  rintro t ρ w' hf ⟨rfl, i, h20, hi, rfl, hany⟩ N hN
  have r4 : ρ 4 = .slice (some ad) l.length c := by rw [hf 4 rfl]; simp (disch := omega) only [wu64, wu32, wu8, fdiv_nn, EO, ↓EP, EQ, EM, ↓reduceIte, Int.reduceAdd, Int.reduceEq, Int.reduceLE, Int.reduceLT, Int.reduceMul, Int.reduceNeg, Int.reducePow, Int.reduceSub, Int.reduceToNat, Nat.reduceAdd, Nat.reduceEqDiff, Nat.reduceLT, Nat.reduceLeDiff, Nat.reduceMul, reduceCtorEq]
  have r18 : ρ 18 = .slice (some ad) l.length c := by rw [hf 18 rfl]; simp (disch := omega) only [wu64, wu32, wu8, fdiv_nn, EO, ↓EP, EQ, EM, ↓reduceIte, Int.reduceAdd, Int.reduceEq, Int.reduceLE, Int.reduceLT, Int.reduceMul, Int.reduceNeg, Int.reducePow, Int.reduceSub, Int.reduceToNat, Nat.reduceAdd, Nat.reduceEqDiff, Nat.reduceLT, Nat.reduceLeDiff, Nat.reduceMul, reduceCtorEq]
  have r19 : ρ 19 = .int .i64 l.length := by rw [hf 19 rfl]; simp (disch := omega) only [wu64, wu32, wu8, fdiv_nn, EO, ↓EP, EQ, EM, ↓reduceIte, Int.reduceAdd, Int.reduceEq, Int.reduceLE, Int.reduceLT, Int.reduceMul, Int.reduceNeg, Int.reducePow, Int.reduceSub, Int.reduceToNat, Nat.reduceAdd, Nat.reduceEqDiff, Nat.reduceLT, Nat.reduceLeDiff, Nat.reduceMul, reduceCtorEq]
  clear hf
  by_cases hil : (i : Int) < (l.length : Int)
  · have ci := cell i (by omega)
    rw [drop_at (show i < l.length by omega), List.any_cons] at hany
    by_cases hb : 2147483647 < at' l (i : Int)
    · rw [decide_eq_true hb, Bool.true_or] at hany
      rw [if_pos hany.symm] at hK
      simp (disch := omega) only [wu64, wu32, wu8, fdiv_nn, EO, ↓EP, EQ, EM, ↓reduceIte, Int.reduceAdd, Int.reduceEq, Int.reduceLE, Int.reduceLT, Int.reduceMul, Int.reduceNeg, Int.reducePow, Int.reduceSub, Int.reduceToNat, Nat.reduceAdd, Nat.reduceEqDiff, Nat.reduceLT, Nat.reduceLeDiff, Nat.reduceMul, reduceCtorEq, W_join, h20, r18, r19, ci]
      exact hK _ w' ((Gw.nil .u8 w).step g1.fr)
    · rw [decide_eq_false hb, Bool.false_or] at hany
      simp (disch := omega) only [wu64, wu32, wu8, fdiv_nn, EO, ↓EP, EQ, EM, ↓reduceIte, Int.reduceAdd, Int.reduceEq, Int.reduceLE, Int.reduceLT, Int.reduceMul, Int.reduceNeg, Int.reducePow, Int.reduceSub, Int.reduceToNat, Nat.reduceAdd, Nat.reduceEqDiff, Nat.reduceLT, Nat.reduceLeDiff, Nat.reduceMul, reduceCtorEq, W_join, h20, r18, r19, ci]
      exact hN (l.length - (i + 1)) _ _ (by omega) ⟨rfl, i + 1, by simp (disch := omega) only [wu64, wu32, wu8, fdiv_nn, EO, ↓EP, EQ, EM, ↓reduceIte, Int.reduceAdd, Int.reduceEq, Int.reduceLE, Int.reduceLT, Int.reduceMul, Int.reduceNeg, Int.reducePow, Int.reduceSub, Int.reduceToNat, Nat.reduceAdd, Nat.reduceEqDiff, Nat.reduceLT, Nat.reduceLeDiff, Nat.reduceMul, reduceCtorEq, h20, Int.natCast_add], by omega, rfl, hany⟩
  have hie : i = l.length := by omega
  subst hie
  rw [List.drop_length, List.any_nil] at hany
  rw [if_neg (by rw [← hany]; simp)] at hK
  have hsm : ∀ i : Nat, i < l.length → 0 ≤ at' l (i : Int) ∧ at' l (i : Int) ≤ 2147483647 := fun i hi => by
    have h1 := hbd _ (at_mem hi)
    refine ⟨h1.1, ?_⟩
    apply Int.le_of_not_gt
    intro hgt
    have : l.any (fun v => decide (2147483647 < v)) = true := List.any_eq_true.2 ⟨_, at_mem hi, decide_eq_true hgt⟩
    rw [this] at hany
    simp at hany
  clear hany hN
  have c0 := cell 0 (by omega)
  have c1 := cell 1 (by omega)
  have b0 := hsm 0 (by omega)
  have b1 := hsm 1 (by omega)
  rw [show ((0 : Nat) : Int) = 0 by rfl] at c0 b0
  rw [show ((1 : Nat) : Int) = 1 by rfl] at c1 b1
  have cellf : ∀ w2, Fr w' w2 nob → w2.cell? (ad.add 0) = some (.int .u64 (at' l 0)) ∧ w2.cell? (ad.add 1) = some (.int .u64 (at' l 1)) := fun w2 f => by
    obtain ⟨ad', e', _, hcl⟩ := (hr.nb f).get (by rw [nums_length]; omega)
    cases e'
    have q0 := hcl.numN (j := 0) (by omega)
    have q1 := hcl.numN (j := 1) (by omega)
    exact ⟨q0, q1⟩
  obtain ⟨z, hz⟩ : ∃ z : Nat, 40 * at' l 0 + at' l 1 = (z : Int) := ⟨(40 * at' l 0 + at' l 1).toNat, by omega⟩
  rw [hz, Int.toNat_natCast] at hK
  simp (disch := omega) only [wu64, wu32, wu8, fdiv_nn, EO, ↓EP, EQ, EM, ↓reduceIte, Int.reduceAdd, Int.reduceEq, Int.reduceLE, Int.reduceLT, Int.reduceMul, Int.reduceNeg, Int.reducePow, Int.reduceSub, Int.reduceToNat, Nat.reduceAdd, Nat.reduceEqDiff, Nat.reduceLT, Nat.reduceLeDiff, Nat.reduceMul, reduceCtorEq, W_join, h20, r4, r18, r19, c0, c1, hz]
  intro m1
  refine seven_vw (by omega) _ fun v2 w2 g2 => ?_
  have f2 := (Fr.drewN w' (1 + m1) nob).nb g2.fr
  obtain ⟨d0, d1⟩ := cellf w2 f2
  have ezz : sevenR z ++ (l.drop 2).flatMap (fun v => sevenR v.toNat) = sevenR z ++ sevens (l.drop 2) := rfl
  rw [ezz] at hK
  have e2 : (2 : Int).toNat = 2 := rfl
  simp (disch := omega) only [wu64, wu32, wu8, fdiv_nn, EO, ↓EP, EQ, EM, ↓reduceIte, Int.reduceAdd, Int.reduceEq, Int.reduceLE, Int.reduceLT, Int.reduceMul, Int.reduceNeg, Int.reducePow, Int.reduceSub, Int.reduceToNat, Nat.reduceAdd, Nat.reduceEqDiff, Nat.reduceLT, Nat.reduceLeDiff, Nat.reduceMul, reduceCtorEq, W_join, h20, r4, r18, r19, d0, d1, hz, e2]
  intro m2
  have hR2 : Rd w' (subA (some ad) c 2 1) (nums .u64 (l.drop 2)) := hr.subA c 2 hc
  generalize subA (some ad) c 2 1 = A2 at hR2 ⊢
  have hd2 : (l.drop 2).length = l.length - 2 := by simp
  have hs2 : ∀ i : Nat, i < (l.drop 2).length → 0 ≤ at' (l.drop 2) (i : Int) ∧ at' (l.drop 2) (i : Int) ≤ 2147483647 := fun i hi => by
    rw [at_drop]; exact hsm (2 + i) (by omega)
  generalize hq : l.drop 2 = q at hR2 hd2 hs2 hK
  have G2 : Gw .u8 w' (w2.drewN m2) v2 (sevenR z) := (g2.step (Fr.drewN w2 m2 nob)).from (Fr.drewN w' (1 + m1) nob)
  generalize w2.drewN m2 = w3 at G2 ⊢
  have eqn : ((l.length - 2 : Nat) : Int) = (q.length : Int) := by omega
  have hsl := seven_len z
  refine loop_inv (fun t ρ w4 => ∃ (j : Nat) (B : Value), ρ 39 = .int .i64 j ∧ ρ 8 = B ∧ j ≤ q.length ∧ t = q.length - j ∧ Gw .u8 w' w4 B (sevenR z ++ sevens (q.take j)) ∧ (sevens (q.take j)).length ≤ 11 * j) q.length ⟨0, v2, by simp (disch := omega) only [wu64, wu32, wu8, fdiv_nn, EO, ↓EP, EQ, EM, ↓reduceIte, Int.reduceAdd, Int.reduceEq, Int.reduceLE, Int.reduceLT, Int.reduceMul, Int.reduceNeg, Int.reducePow, Int.reduceSub, Int.reduceToNat, Nat.reduceAdd, Nat.reduceEqDiff, Nat.reduceLT, Nat.reduceLeDiff, Nat.reduceMul, reduceCtorEq], by simp (disch := omega) only [wu64, wu32, wu8, fdiv_nn, EO, ↓EP, EQ, EM, ↓reduceIte, Int.reduceAdd, Int.reduceEq, Int.reduceLE, Int.reduceLT, Int.reduceMul, Int.reduceNeg, Int.reducePow, Int.reduceSub, Int.reduceToNat, Nat.reduceAdd, Nat.reduceEqDiff, Nat.reduceLT, Nat.reduceLeDiff, Nat.reduceMul, reduceCtorEq], by omega, by omega, by simpa [sevens] using G2, by simp [sevens]⟩ ?_
  rintro t ρ w4 hf ⟨j, B, h39, h8, hj, rfl, G, hlen⟩ N hN
  have r37 : ρ 37 = .slice A2 (l.length - 2) (c - 2) := by rw [hf 37 rfl]; simp (disch := omega) only [wu64, wu32, wu8, fdiv_nn, EO, ↓EP, EQ, EM, ↓reduceIte, Int.reduceAdd, Int.reduceEq, Int.reduceLE, Int.reduceLT, Int.reduceMul, Int.reduceNeg, Int.reducePow, Int.reduceSub, Int.reduceToNat, Nat.reduceAdd, Nat.reduceEqDiff, Nat.reduceLT, Nat.reduceLeDiff, Nat.reduceMul, reduceCtorEq, r4, e2]
  have r38 : ρ 38 = .int .i64 q.length := by rw [hf 38 rfl]; simp (disch := omega) only [wu64, wu32, wu8, fdiv_nn, EO, ↓EP, EQ, EM, ↓reduceIte, Int.reduceAdd, Int.reduceEq, Int.reduceLE, Int.reduceLT, Int.reduceMul, Int.reduceNeg, Int.reducePow, Int.reduceSub, Int.reduceToNat, Nat.reduceAdd, Nat.reduceEqDiff, Nat.reduceLT, Nat.reduceLeDiff, Nat.reduceMul, reduceCtorEq, r4, e2, eqn]
  clear hf
  by_cases hjl : (j : Int) < (q.length : Int)
  · obtain ⟨a2, rfl, cellq⟩ := pos_cellsK (hR2.nb G.fr) (by omega)
    have cj := cellq j (by omega)
    have bj := hs2 j (by omega)
    obtain ⟨y, hy⟩ : ∃ y : Nat, at' q (j : Int) = (y : Int) := ⟨(at' q (j : Int)).toNat, by omega⟩
    rw [hy] at cj
    have hst : sevens (q.take (j + 1)) = sevens (q.take j) ++ sevenR y := by
      rw [take_snoc (by omega), sevens_snoc, hy, Int.toNat_natCast]
    have hsy := seven_len y
    simp (disch := omega) only [wu64, wu32, wu8, fdiv_nn, EO, ↓EP, EQ, EM, ↓reduceIte, Int.reduceAdd, Int.reduceEq, Int.reduceLE, Int.reduceLT, Int.reduceMul, Int.reduceNeg, Int.reducePow, Int.reduceSub, Int.reduceToNat, Nat.reduceAdd, Nat.reduceEqDiff, Nat.reduceLT, Nat.reduceLeDiff, Nat.reduceMul, reduceCtorEq, W_join, h39, h8, r37, r38, cj]
    refine seven_vw (by omega) _ fun v5 w5 g5 => ?_
    obtain ⟨A5, c5, rfl, hc5, hr5⟩ := readn g5.sl rfl
    have G5 := G.step g5.fr
    simp (disch := omega) only [wu64, wu32, wu8, fdiv_nn, EO, ↓EP, EQ, EM, ↓reduceIte, Int.reduceAdd, Int.reduceEq, Int.reduceLE, Int.reduceLT, Int.reduceMul, Int.reduceNeg, Int.reducePow, Int.reduceSub, Int.reduceToNat, Nat.reduceAdd, Nat.reduceEqDiff, Nat.reduceLT, Nat.reduceLeDiff, Nat.reduceMul, reduceCtorEq, h39, h8]
    refine app_num G5.sl rfl hr5 (by rw [List.length_append]; omega) (by omega) fun v6 w6 a6 => ?_
    have G6 := G5.apd a6
    rw [List.append_assoc, ← hst] at G6
    simp (disch := omega) only [wu64, wu32, wu8, fdiv_nn, EO, ↓EP, EQ, EM, ↓reduceIte, Int.reduceAdd, Int.reduceEq, Int.reduceLE, Int.reduceLT, Int.reduceMul, Int.reduceNeg, Int.reducePow, Int.reduceSub, Int.reduceToNat, Nat.reduceAdd, Nat.reduceEqDiff, Nat.reduceLT, Nat.reduceLeDiff, Nat.reduceMul, reduceCtorEq, h39]
    exact hN (q.length - (j + 1)) _ _ (by omega) ⟨j + 1, v6, by simp (disch := omega) only [wu64, wu32, wu8, fdiv_nn, EO, ↓EP, EQ, EM, ↓reduceIte, Int.reduceAdd, Int.reduceEq, Int.reduceLE, Int.reduceLT, Int.reduceMul, Int.reduceNeg, Int.reducePow, Int.reduceSub, Int.reduceToNat, Nat.reduceAdd, Nat.reduceEqDiff, Nat.reduceLT, Nat.reduceLeDiff, Nat.reduceMul, reduceCtorEq, h39, Int.natCast_add], by simp (disch := omega) only [wu64, wu32, wu8, fdiv_nn, EO, ↓EP, EQ, EM, ↓reduceIte, Int.reduceAdd, Int.reduceEq, Int.reduceLE, Int.reduceLT, Int.reduceMul, Int.reduceNeg, Int.reducePow, Int.reduceSub, Int.reduceToNat, Nat.reduceAdd, Nat.reduceEqDiff, Nat.reduceLT, Nat.reduceLeDiff, Nat.reduceMul, reduceCtorEq], by omega, rfl, G6, by rw [hst, List.length_append]; omega⟩
  · have hje : j = q.length := by omega
    subst hje
    rw [List.take_of_length_le (Nat.le_refl _)] at G
    simp (disch := omega) only [wu64, wu32, wu8, fdiv_nn, EO, ↓EP, EQ, EM, ↓reduceIte, Int.reduceAdd, Int.reduceEq, Int.reduceLE, Int.reduceLT, Int.reduceMul, Int.reduceNeg, Int.reducePow, Int.reduceSub, Int.reduceToNat, Nat.reduceAdd, Nat.reduceEqDiff, Nat.reduceLT, Nat.reduceLeDiff, Nat.reduceMul, reduceCtorEq, W_join, h39, h8, r37, r38]
    exact hK _ w4 (G.from g1.fr)
end Go.Proofs.YtcgplgpdcfocpaaDoor.Der
end
section
set_option linter.unusedVariables false
set_option linter.unusedSimpArgs false
namespace Go.Proofs.YtcgplgpdcfocpaaDoor.Der
open Go Go.RowKit Go.Proofs Go.Proofs.YtcgplgpdcfocpaaDoor.Eng Go.Proofs.YtcgplgpdcfocpaaDoor.Code
set_option maxRecDepth 100000
attribute [local irreducible] callK S.W opsW scrW scrT
def foldv (l : List Int) : Int := l.foldl (fun v c => satA (10 * v + (c - 48))) 0
def seg (d : List Int) (f i : Nat) : List Int := (d.drop f).take (i - f)
theorem seg_snoc {d : List Int} {f i : Nat} (h : f ≤ i) (hi : i < d.length) : seg d f (i + 1) = seg d f i ++ [at' d (i : Int)] := by
  unfold seg
  rw [show i + 1 - f = (i - f) + 1 by omega, take_snoc (by simp; omega), at_drop, show f + (i - f) = i by omega]
theorem seg_self (d : List Int) (f : Nat) : seg d f f = [] := by simp [seg]
structure At (d l : List Int) (f i : Nat) (T : Option (List Int)) : Prop where
  dig : ∀ x ∈ seg d f i, 48 ≤ x ∧ x ≤ 57
  bad : f + 1 < i → at' d (f : Int) = 48 → T = none
  good : ¬ (f + 1 < i ∧ at' d (f : Int) = 48) → arcsGo ((d ++ [46]).drop i) l (foldv (seg d f i)) (min (i - f) 20) = T
theorem drop46 {d : List Int} {i : Nat} (h : i ≤ d.length) : (d ++ [46]).drop i = at' (d ++ [46]) (i : Int) :: (d ++ [46]).drop (i + 1) := drop_at (by simp; omega)
theorem At.first {d l : List Int} {f : Nat} {T : Option (List Int)} (h : arcsGo ((d ++ [46]).drop f) l 0 0 = T) : At d l f f T :=
  ⟨by rw [seg_self]; simp, fun h1 => by omega, fun _ => by rw [seg_self, Nat.sub_self]; exact h⟩
theorem seg_one {d : List Int} {f : Nat} (h : f < d.length) : seg d f (f + 1) = [at' d (f : Int)] := by
  rw [seg_snoc (Nat.le_refl f) h, seg_self]; rfl
theorem At.zero {d l : List Int} {f : Nat} {T : Option (List Int)} (h : At d l f (f + 1) T) (hf : f < d.length) : (foldv (seg d f (f + 1)) = 0) ↔ at' d (f : Int) = 48 := by
  have hd := h.dig (at' d (f : Int)) (by rw [seg_one hf]; simp)
  rw [seg_one hf]
  simp only [foldv, List.foldl_cons, List.foldl_nil, satA]
  split <;> constructor <;> intro <;> omega
theorem At.next {d l : List Int} {f i : Nat} {T : Option (List Int)} (h : At d l f i T) (hi : i ≤ d.length) (h46 : at' (d ++ [46]) (i : Int) = 46) (hf : f < i) (hb : ¬ (at' d (f : Int) = 48 ∧ f + 1 < i)) : arcsGo ((d ++ [46]).drop (i + 1)) (l ++ [foldv (seg d f i)]) 0 0 = T := by
  have := h.good (fun hx => hb ⟨hx.2, hx.1⟩)
  rw [drop46 hi, h46, arcsGo, if_pos ⟨rfl, by omega⟩] at this
  exact this
end Go.Proofs.YtcgplgpdcfocpaaDoor.Der
end
section
set_option linter.unusedVariables false
set_option linter.unusedSimpArgs false
namespace Go.Proofs.YtcgplgpdcfocpaaDoor.Der
open Go Go.RowKit Go.Proofs Go.Proofs.YtcgplgpdcfocpaaDoor.Eng Go.Proofs.YtcgplgpdcfocpaaDoor.Code
set_option maxRecDepth 100000
attribute [local irreducible] callK S.W opsW scrW scrT
end Go.Proofs.YtcgplgpdcfocpaaDoor.Der
end
section
set_option linter.unusedVariables false
set_option linter.unusedSimpArgs false
namespace Go.Proofs.YtcgplgpdcfocpaaDoor.Der
open Go Go.RowKit Go.Proofs Go.Proofs.YtcgplgpdcfocpaaDoor.Eng Go.Proofs.YtcgplgpdcfocpaaDoor.Code
set_option maxRecDepth 100000
attribute [local irreducible] callK S.W opsW scrW scrT
open Go.Proofs.YtcgplgpdcfocpaaDoor.Spec
def oidU (alg : Int) : List UInt8 :=
  if alg = 1 then [49, 46, 51, 46, 49, 52, 46, 51, 46, 50, 46, 50, 54]
  else if alg = 2 then [50, 46, 49, 54, 46, 56, 52, 48, 46, 49, 46, 49, 48, 49, 46, 51, 46, 52, 46, 50, 46, 49]
  else if alg = 3 then [50, 46, 49, 54, 46, 56, 52, 48, 46, 49, 46, 49, 48, 49, 46, 51, 46, 52, 46, 50, 46, 50]
  else [50, 46, 49, 54, 46, 56, 52, 48, 46, 49, 46, 49, 48, 49, 46, 51, 46, 52, 46, 50, 46, 51]
def oidP (alg : Int) : List Int := (putOidR (ints (oidU alg))).1
def infoR (alg : Int) (sum : List Int) : List Int :=
  (putR 0 16 true [(putR 0 16 true [(putR 0 6 false [oidP alg]).1, (putR 0 5 false []).1]).1, (putR 0 4 false [sum]).1]).1
def padR (alg : Int) (sum : List Int) (n : Int) : List Int × Int :=
  if sizeI alg = 0 ∨ (sum.length : Int) ≠ sizeI alg ∨ 2048 < n then ([], 1)
  else if n < (infoR alg sum).length + 11 then ([], 2)
  else ([0, 1] ++ List.replicate (n.toNat - (infoR alg sum).length - 3) 255 ++ [0] ++ infoR alg sum, 0)
theorem putR_len (cls tag : Int) (cons : Bool) (ls : List (List Int)) : (putR cls tag cons ls).1.length ≤ 17 + (ls.map List.length).sum := by
  unfold putR
  split
  · simp
  · split
    · simp
    · rw [headR_eq]
      simp only [List.length_append, List.length_flatten]
      have h1 := headA_len (firstR cls cons) tag
      have h2 := lenB_len (ls.map List.length).sum
      omega
theorem oid_len (alg : Int) : (oidP alg).length ≤ 30 := by
  have h1 : (putOidR (ints (oidU 1))).1.length ≤ 30 := by decide +kernel
  have h2 : (putOidR (ints (oidU 2))).1.length ≤ 30 := by decide +kernel
  have h3 : (putOidR (ints (oidU 3))).1.length ≤ 30 := by decide +kernel
  have h4 : (putOidR (ints (oidU 4))).1.length ≤ 30 := by decide +kernel
  unfold oidP
  by_cases e1 : alg = 1
  · subst e1; exact h1
  by_cases e2 : alg = 2
  · subst e2; exact h2
  by_cases e3 : alg = 3
  · subst e3; exact h3
  have : oidU alg = oidU 4 := by unfold oidU; rw [if_neg e1, if_neg e2, if_neg e3]; rfl
  rw [this]; exact h4
theorem info_len {alg : Int} {sum : List Int} (h : sum.length ≤ 64) : (infoR alg sum).length ≤ 200 := by
  unfold infoR
  have a := putR_len 0 16 true [(putR 0 16 true [(putR 0 6 false [oidP alg]).1, (putR 0 5 false []).1]).1, (putR 0 4 false [sum]).1]
  have b := putR_len 0 16 true [(putR 0 6 false [oidP alg]).1, (putR 0 5 false []).1]
  have c := putR_len 0 6 false [oidP alg]
  have d := putR_len 0 5 false []
  have e := putR_len 0 4 false [sum]
  have f := oid_len alg
  simp only [List.map_cons, List.map_nil, List.sum_cons, List.sum_nil] at a b c d e
  omega
theorem oidU_len (alg : Int) : (oidU alg).length ≤ 22 := by
  unfold oidU
  repeat' split
  all_goals decide
theorem LV.emp (w : World) : LV w (.slice none 0 0) [] := ⟨⟨none, 0, [], rfl, Nat.le_refl _, Rd.nil _ _, rfl, fun i v l h => by simp at h⟩⟩
theorem LV.one {w w' : World} {A : Option Addr} {c : Nat} {p : List Int} (n : New w w' [.slice A p.length c]) (hp : Vw .u8 w (.slice A p.length c) p) : LV w' (.slice (some ⟨w.heap.size, 0, none⟩) 1 1) [p] := by
  refine ⟨⟨_, _, _, rfl, Nat.le_refl _, n.rdv, rfl, fun i v l h1 h2 => ?_⟩⟩
  match i, h1, h2 with
  | 0, h1, h2 => simp at h1 h2; subst h1 h2; exact hp.nb (n.fr nob)
  | i + 1, h1, h2 => simp at h1
theorem LV.two {w w' : World} {A B : Option Addr} {c d : Nat} {p q : List Int} (n : New w w' [.slice A p.length c, .slice B q.length d]) (hp : Vw .u8 w (.slice A p.length c) p) (hq : Vw .u8 w (.slice B q.length d) q) : LV w' (.slice (some ⟨w.heap.size, 0, none⟩) 2 2) [p, q] := by
  refine ⟨⟨_, _, _, rfl, Nat.le_refl _, n.rdv, rfl, fun i v l h1 h2 => ?_⟩⟩
  match i, h1, h2 with
  | 0, h1, h2 => simp at h1 h2; subst h1 h2; exact hp.nb (n.fr nob)
  | 1, h1, h2 => simp at h1 h2; subst h1 h2; exact hq.nb (n.fr nob)
  | i + 2, h1, h2 => simp at h1
theorem oid_k {alg : Int} {w : World} {K : Value → World → Prop} (hK : K (.string (S (oidU alg))) w) : callK Tryd.prog 57 [.int .i64 alg] w K := by
  refine call_of Tryd.func57 Code.h57 (by simp [Code.c57]) ?_
  unfold oidU at hK
  by_cases e1 : alg = 1
  · simp (disch := omega) only [wu64, wu32, wu8, fdiv_nn, EO, ↓EP, EQ, EM, ↓reduceIte, Int.reduceAdd, Int.reduceEq, Int.reduceLE, Int.reduceLT, Int.reduceMul, Int.reduceNeg, Int.reducePow, Int.reduceSub, Int.reduceToNat, Nat.reduceAdd, Nat.reduceEqDiff, Nat.reduceLT, Nat.reduceLeDiff, Nat.reduceMul, reduceCtorEq, Code.c57, e1]
    rw [if_pos e1] at hK; exact hK
  by_cases e2 : alg = 2
  · simp (disch := omega) only [wu64, wu32, wu8, fdiv_nn, EO, ↓EP, EQ, EM, ↓reduceIte, Int.reduceAdd, Int.reduceEq, Int.reduceLE, Int.reduceLT, Int.reduceMul, Int.reduceNeg, Int.reducePow, Int.reduceSub, Int.reduceToNat, Nat.reduceAdd, Nat.reduceEqDiff, Nat.reduceLT, Nat.reduceLeDiff, Nat.reduceMul, reduceCtorEq, Code.c57, e1, e2]
    rw [if_neg e1, if_pos e2] at hK; exact hK
  by_cases e3 : alg = 3
  · simp (disch := omega) only [wu64, wu32, wu8, fdiv_nn, EO, ↓EP, EQ, EM, ↓reduceIte, Int.reduceAdd, Int.reduceEq, Int.reduceLE, Int.reduceLT, Int.reduceMul, Int.reduceNeg, Int.reducePow, Int.reduceSub, Int.reduceToNat, Nat.reduceAdd, Nat.reduceEqDiff, Nat.reduceLT, Nat.reduceLeDiff, Nat.reduceMul, reduceCtorEq, Code.c57, e1, e2, e3]
    rw [if_neg e1, if_neg e2, if_pos e3] at hK; exact hK
  simp (disch := omega) only [wu64, wu32, wu8, fdiv_nn, EO, ↓EP, EQ, EM, ↓reduceIte, Int.reduceAdd, Int.reduceEq, Int.reduceLE, Int.reduceLT, Int.reduceMul, Int.reduceNeg, Int.reducePow, Int.reduceSub, Int.reduceToNat, Nat.reduceAdd, Nat.reduceEqDiff, Nat.reduceLT, Nat.reduceLeDiff, Nat.reduceMul, reduceCtorEq, Code.c57, e1, e2, e3]
  rw [if_neg e1, if_neg e2, if_neg e3] at hK; exact hK
end Go.Proofs.YtcgplgpdcfocpaaDoor.Der
end
section
set_option linter.unusedVariables false
set_option linter.unusedSimpArgs false
namespace Go.Proofs.YtcgplgpdcfocpaaDoor.Der
open Go Go.RowKit Go.Proofs Go.Proofs.YtcgplgpdcfocpaaDoor.Eng Go.Proofs.YtcgplgpdcfocpaaDoor.Code
set_option maxRecDepth 100000
attribute [local irreducible] callK S.W opsW scrW scrT
open Go.Proofs.YtcgplgpdcfocpaaDoor.Spec
attribute [local irreducible] putR putOidR
theorem len63 {p : List Int} (h : p.length ≤ 1000) : ∀ l ∈ [p], l.length ≤ 9223372036854775807 := fun l hl => by
  rw [List.mem_singleton] at hl; subst hl; omega
theorem len63b {p q : List Int} (h : p.length ≤ 1000) (h' : q.length ≤ 1000) : ∀ l ∈ [p, q], l.length ≤ 9223372036854775807 := fun l hl => by
  simp only [List.mem_cons, List.not_mem_nil, or_false] at hl
  rcases hl with rfl | rfl <;> omega
set_option maxHeartbeats 4000000 in
theorem info_k {alg : Int} {sum : List Int} {v : Value} {w : World} (hv : Vw .u8 w v sum) (hs : sum.length ≤ 64) {K : Value → World → Prop} (hK : ∀ v' w', Gw .u8 w w' v' (infoR alg sum) → K v' w') : callK Tryd.prog 32 [.int .i64 alg, v] w K := by
  refine call_of Tryd.func32 Code.h32 (by simp [Code.c32]) ?_
  have hv0 := hv
  obtain ⟨A, c, rfl, hc, hr⟩ := hv0
  have lo : (putOidR (ints (oidU alg))).1.length ≤ 30 := oid_len alg
  have l6 := putR_len 0 6 false [(putOidR (ints (oidU alg))).1]
  have l5 := putR_len 0 5 false []
  have la := putR_len 0 16 true [(putR 0 6 false [(putOidR (ints (oidU alg))).1]).1, (putR 0 5 false []).1]
  have l4 := putR_len 0 4 false [sum]
  simp only [List.map_cons, List.map_nil, List.sum_cons, List.sum_nil] at la l4 l5 l6
  have b2 : (2 : Int) ≤ 3 := by decide
  simp (disch := omega) only [wu64, wu32, wu8, fdiv_nn, EO, ↓EP, EQ, EM, ↓reduceIte, Int.reduceAdd, Int.reduceEq, Int.reduceLE, Int.reduceLT, Int.reduceMul, Int.reduceNeg, Int.reducePow, Int.reduceSub, Int.reduceToNat, Nat.reduceAdd, Nat.reduceEqDiff, Nat.reduceLT, Nat.reduceLeDiff, Nat.reduceMul, reduceCtorEq, Code.c32]
  refine oid_k ?_
  simp (disch := omega) only [wu64, wu32, wu8, fdiv_nn, EO, ↓EP, EQ, EM, ↓reduceIte, Int.reduceAdd, Int.reduceEq, Int.reduceLE, Int.reduceLT, Int.reduceMul, Int.reduceNeg, Int.reducePow, Int.reduceSub, Int.reduceToNat, Nat.reduceAdd, Nat.reduceEqDiff, Nat.reduceLT, Nat.reduceLeDiff, Nat.reduceMul, reduceCtorEq]
  refine putoid_vw (by have := oidU_len alg; omega) _ fun v1 w1 g1 => ?_
  obtain ⟨A1, c1, rfl, hc1, hr1, _⟩ := g1.sl.read
  simp (disch := omega) only [wu64, wu32, wu8, fdiv_nn, EO, ↓EP, EQ, EM, ↓reduceIte, Int.reduceAdd, Int.reduceEq, Int.reduceLE, Int.reduceLT, Int.reduceMul, Int.reduceNeg, Int.reducePow, Int.reduceSub, Int.reduceToNat, Nat.reduceAdd, Nat.reduceEqDiff, Nat.reduceLT, Nat.reduceLeDiff, Nat.reduceMul, reduceCtorEq, pr2]
  refine bslS1 fun w2 n2 => ?_
  simp (disch := omega) only [wu64, wu32, wu8, fdiv_nn, EO, ↓EP, EQ, EM, ↓reduceIte, Int.reduceAdd, Int.reduceEq, Int.reduceLE, Int.reduceLT, Int.reduceMul, Int.reduceNeg, Int.reducePow, Int.reduceSub, Int.reduceToNat, Nat.reduceAdd, Nat.reduceEqDiff, Nat.reduceLT, Nat.reduceLeDiff, Nat.reduceMul, reduceCtorEq]
  refine put_vw (LV.one n2 g1.vw) (by decide) (by decide) (by simp) (len63 (by omega)) _ fun v3 w3 g3 => ?_
  obtain ⟨A3, c3, rfl, hc3, hr3, _⟩ := g3.sl.read
  simp (disch := omega) only [wu64, wu32, wu8, fdiv_nn, EO, ↓EP, EQ, EM, ↓reduceIte, Int.reduceAdd, Int.reduceEq, Int.reduceLE, Int.reduceLT, Int.reduceMul, Int.reduceNeg, Int.reducePow, Int.reduceSub, Int.reduceToNat, Nat.reduceAdd, Nat.reduceEqDiff, Nat.reduceLT, Nat.reduceLeDiff, Nat.reduceMul, reduceCtorEq, pr2]
  refine put_vw (LV.emp w3) (by decide) (by decide) (by decide) (fun l hl => by simp at hl) _ fun v4 w4 g4 => ?_
  obtain ⟨A4, c4, rfl, hc4, hr4, _⟩ := g4.sl.read
  simp (disch := omega) only [wu64, wu32, wu8, fdiv_nn, EO, ↓EP, EQ, EM, ↓reduceIte, Int.reduceAdd, Int.reduceEq, Int.reduceLE, Int.reduceLT, Int.reduceMul, Int.reduceNeg, Int.reducePow, Int.reduceSub, Int.reduceToNat, Nat.reduceAdd, Nat.reduceEqDiff, Nat.reduceLT, Nat.reduceLeDiff, Nat.reduceMul, reduceCtorEq, pr2]
  refine bslS2 fun w5 n5 => ?_
  simp (disch := omega) only [wu64, wu32, wu8, fdiv_nn, EO, ↓EP, EQ, EM, ↓reduceIte, Int.reduceAdd, Int.reduceEq, Int.reduceLE, Int.reduceLT, Int.reduceMul, Int.reduceNeg, Int.reducePow, Int.reduceSub, Int.reduceToNat, Nat.reduceAdd, Nat.reduceEqDiff, Nat.reduceLT, Nat.reduceLeDiff, Nat.reduceMul, reduceCtorEq]
  refine put_vw (LV.two n5 (g3.vw.nb g4.fr) g4.vw) (by decide) (by decide) (by simp) (len63b (by omega) (by omega)) _ fun v6 w6 g6 => ?_
  obtain ⟨A6, c6, rfl, hc6, hr6, _⟩ := g6.sl.read
  have f2 := n2.fr nob
  have f5 := n5.fr nob
  have fa : Fr w w6 nob := ((((g1.fr.nb f2).nb g3.fr).nb g4.fr).nb f5).nb g6.fr
  have hv6 : Vw .u8 w6 (.slice A sum.length c) sum := hv.nb fa
  simp (disch := omega) only [wu64, wu32, wu8, fdiv_nn, EO, ↓EP, EQ, EM, ↓reduceIte, Int.reduceAdd, Int.reduceEq, Int.reduceLE, Int.reduceLT, Int.reduceMul, Int.reduceNeg, Int.reducePow, Int.reduceSub, Int.reduceToNat, Nat.reduceAdd, Nat.reduceEqDiff, Nat.reduceLT, Nat.reduceLeDiff, Nat.reduceMul, reduceCtorEq, pr2]
  refine bslS1 fun w7 n7 => ?_
  have f7 := n7.fr nob
  simp (disch := omega) only [wu64, wu32, wu8, fdiv_nn, EO, ↓EP, EQ, EM, ↓reduceIte, Int.reduceAdd, Int.reduceEq, Int.reduceLE, Int.reduceLT, Int.reduceMul, Int.reduceNeg, Int.reducePow, Int.reduceSub, Int.reduceToNat, Nat.reduceAdd, Nat.reduceEqDiff, Nat.reduceLT, Nat.reduceLeDiff, Nat.reduceMul, reduceCtorEq]
  refine put_vw (LV.one n7 hv6) (by decide) (by decide) (by simp) (len63 (by omega)) _ fun v8 w8 g8 => ?_
  obtain ⟨A8, c8, rfl, hc8, hr8, _⟩ := g8.sl.read
  simp (disch := omega) only [wu64, wu32, wu8, fdiv_nn, EO, ↓EP, EQ, EM, ↓reduceIte, Int.reduceAdd, Int.reduceEq, Int.reduceLE, Int.reduceLT, Int.reduceMul, Int.reduceNeg, Int.reducePow, Int.reduceSub, Int.reduceToNat, Nat.reduceAdd, Nat.reduceEqDiff, Nat.reduceLT, Nat.reduceLeDiff, Nat.reduceMul, reduceCtorEq, pr2]
  refine bslS2 fun w9 n9 => ?_
  have f9 := n9.fr nob
  simp (disch := omega) only [wu64, wu32, wu8, fdiv_nn, EO, ↓EP, EQ, EM, ↓reduceIte, Int.reduceAdd, Int.reduceEq, Int.reduceLE, Int.reduceLT, Int.reduceMul, Int.reduceNeg, Int.reducePow, Int.reduceSub, Int.reduceToNat, Nat.reduceAdd, Nat.reduceEqDiff, Nat.reduceLT, Nat.reduceLeDiff, Nat.reduceMul, reduceCtorEq]
  refine put_vw (LV.two n9 ((g6.vw.nb f7).nb g8.fr) g8.vw) (by decide) (by decide) (by simp) (len63b (by omega) (by omega)) _ fun v10 w10 g10 => ?_
  obtain ⟨A10, c10, rfl, hc10, hr10, _⟩ := g10.sl.read
  have fb : Fr w w9 nob := ((fa.nb f7).nb g8.fr).nb f9
  simp (disch := omega) only [wu64, wu32, wu8, fdiv_nn, EO, ↓EP, EQ, EM, ↓reduceIte, Int.reduceAdd, Int.reduceEq, Int.reduceLE, Int.reduceLT, Int.reduceMul, Int.reduceNeg, Int.reducePow, Int.reduceSub, Int.reduceToNat, Nat.reduceAdd, Nat.reduceEqDiff, Nat.reduceLT, Nat.reduceLeDiff, Nat.reduceMul, reduceCtorEq, pr2]
  refine hK _ w10 ⟨g10.sl, fun b e => ?_, fb.nb g10.fr⟩
  have := g10.up b e
  have := fb.size
  omega
end Go.Proofs.YtcgplgpdcfocpaaDoor.Der
end
section
set_option linter.unusedVariables false
set_option linter.unusedSimpArgs false
namespace Go.Proofs.YtcgplgpdcfocpaaDoor.Der
open Go Go.RowKit Go.Proofs Go.Proofs.YtcgplgpdcfocpaaDoor.Eng Go.Proofs.YtcgplgpdcfocpaaDoor.Code
set_option maxRecDepth 100000
attribute [local irreducible] callK S.W opsW scrW scrT
open Go.Proofs.YtcgplgpdcfocpaaDoor.Spec
attribute [local irreducible] putR putOidR infoR
theorem known_k {alg : Int} {sum : List Int} {A : Option Addr} {c : Nat} {w : World} (hs : sum.length ≤ 9223372036854775807) {K : Value → World → Prop} (hK : K (.bool (decide (0 < sizeI alg) && decide ((sum.length : Int) = sizeI alg))) w) : callK Tryd.prog 31 [.int .i64 alg, .slice A sum.length c] w K := by
  refine call_of Tryd.func31 Code.h31 (by simp [Code.c31]) ?_
  simp (disch := omega) only [wu64, wu32, wu8, fdiv_nn, EO, ↓EP, EQ, EM, ↓reduceIte, Int.reduceAdd, Int.reduceEq, Int.reduceLE, Int.reduceLT, Int.reduceMul, Int.reduceNeg, Int.reducePow, Int.reduceSub, Int.reduceToNat, Nat.reduceAdd, Nat.reduceEqDiff, Nat.reduceLT, Nat.reduceLeDiff, Nat.reduceMul, reduceCtorEq, Code.c31]
  refine size_spec alg _ _ ?_
  by_cases c0 : 0 < sizeI alg
  · simp (disch := omega) only [wu64, wu32, wu8, fdiv_nn, EO, ↓EP, EQ, EM, ↓reduceIte, Int.reduceAdd, Int.reduceEq, Int.reduceLE, Int.reduceLT, Int.reduceMul, Int.reduceNeg, Int.reducePow, Int.reduceSub, Int.reduceToNat, Nat.reduceAdd, Nat.reduceEqDiff, Nat.reduceLT, Nat.reduceLeDiff, Nat.reduceMul, reduceCtorEq, c0]
    refine size_spec alg _ _ ?_
    by_cases c1 : (sum.length : Int) = sizeI alg
    · rw [decide_eq_true c0, decide_eq_true c1] at hK
      simp (disch := omega) only [wu64, wu32, wu8, fdiv_nn, EO, ↓EP, EQ, EM, ↓reduceIte, Int.reduceAdd, Int.reduceEq, Int.reduceLE, Int.reduceLT, Int.reduceMul, Int.reduceNeg, Int.reducePow, Int.reduceSub, Int.reduceToNat, Nat.reduceAdd, Nat.reduceEqDiff, Nat.reduceLT, Nat.reduceLeDiff, Nat.reduceMul, reduceCtorEq, c0, c1]
      exact hK
    · rw [decide_eq_true c0, decide_eq_false c1] at hK
      simp (disch := omega) only [wu64, wu32, wu8, fdiv_nn, EO, ↓EP, EQ, EM, ↓reduceIte, Int.reduceAdd, Int.reduceEq, Int.reduceLE, Int.reduceLT, Int.reduceMul, Int.reduceNeg, Int.reducePow, Int.reduceSub, Int.reduceToNat, Nat.reduceAdd, Nat.reduceEqDiff, Nat.reduceLT, Nat.reduceLeDiff, Nat.reduceMul, reduceCtorEq, c0, c1]
      exact hK
  · rw [decide_eq_false c0, Bool.false_and] at hK
    simp (disch := omega) only [wu64, wu32, wu8, fdiv_nn, EO, ↓EP, EQ, EM, ↓reduceIte, Int.reduceAdd, Int.reduceEq, Int.reduceLE, Int.reduceLT, Int.reduceMul, Int.reduceNeg, Int.reducePow, Int.reduceSub, Int.reduceToNat, Nat.reduceAdd, Nat.reduceEqDiff, Nat.reduceLT, Nat.reduceLeDiff, Nat.reduceMul, reduceCtorEq, c0]
    exact hK
theorem sizeI_nn (alg : Int) : 0 ≤ sizeI alg ∧ sizeI alg ≤ 64 := by
  unfold sizeI
  repeat' split
  all_goals omega
set_option maxHeartbeats 4000000 in
theorem pad_k {alg n : Int} {sum : List Int} {v : Value} {w : World} (hn : -9223372036854775808 ≤ n ∧ n ≤ 9223372036854775807) (hv : Vw .u8 w v sum) (hs : sum.length ≤ 9223372036854775807) {K : Value → World → Prop}
    (hK : ∀ v' w', Gw .u8 w w' v' (padR alg sum n).1 → K (pr2 v' (padR alg sum n).2) w') : callK Tryd.prog 18 [.int .i64 alg, v, .int .i64 n] w K := by
  refine call_of Tryd.func18 Code.h18 (by simp [Code.c18]) ?_
  have hv0 := hv
  obtain ⟨A, c, rfl, hc, hr⟩ := hv0
  have hz := sizeI_nn alg
  have bad1 : (sizeI alg = 0 ∨ (sum.length : Int) ≠ sizeI alg ∨ 2048 < n) → K (pr2 (.slice none 0 0) 1) w := fun h => by
    have e : padR alg sum n = ([], 1) := if_pos h
    rw [e] at hK
    exact hK _ _ (Gw.nil _ _)
  simp (disch := omega) only [wu64, wu32, wu8, fdiv_nn, EO, ↓EP, EQ, EM, ↓reduceIte, Int.reduceAdd, Int.reduceEq, Int.reduceLE, Int.reduceLT, Int.reduceMul, Int.reduceNeg, Int.reducePow, Int.reduceSub, Int.reduceToNat, Nat.reduceAdd, Nat.reduceEqDiff, Nat.reduceLT, Nat.reduceLeDiff, Nat.reduceMul, reduceCtorEq, Code.c18]
  refine known_k hs ?_
  by_cases c0 : 0 < sizeI alg ∧ (sum.length : Int) = sizeI alg
  rotate_left
  · have : (decide (0 < sizeI alg) && decide ((sum.length : Int) = sizeI alg)) = false := by
      by_cases h : 0 < sizeI alg
      · have : ¬ (sum.length : Int) = sizeI alg := fun e => c0 ⟨h, e⟩
        simp [this]
      · simp [h]
    rw [this]
    simp (disch := omega) only [wu64, wu32, wu8, fdiv_nn, EO, ↓EP, EQ, EM, ↓reduceIte, Int.reduceAdd, Int.reduceEq, Int.reduceLE, Int.reduceLT, Int.reduceMul, Int.reduceNeg, Int.reducePow, Int.reduceSub, Int.reduceToNat, Nat.reduceAdd, Nat.reduceEqDiff, Nat.reduceLT, Nat.reduceLeDiff, Nat.reduceMul, reduceCtorEq, Bool.not_false]
    exact bad1 (by omega)
  obtain ⟨c1, c2⟩ := c0
  rw [decide_eq_true c1, decide_eq_true c2, Bool.true_and]
  by_cases c3 : 2048 < n
  · simp (disch := omega) only [wu64, wu32, wu8, fdiv_nn, EO, ↓EP, EQ, EM, ↓reduceIte, Int.reduceAdd, Int.reduceEq, Int.reduceLE, Int.reduceLT, Int.reduceMul, Int.reduceNeg, Int.reducePow, Int.reduceSub, Int.reduceToNat, Nat.reduceAdd, Nat.reduceEqDiff, Nat.reduceLT, Nat.reduceLeDiff, Nat.reduceMul, reduceCtorEq, Bool.not_true, c3]
    exact bad1 (.inr (.inr c3))
  have hR : padR alg sum n = if n < (infoR alg sum).length + 11 then ([], 2) else ([0, 1] ++ List.replicate (n.toNat - (infoR alg sum).length - 3) 255 ++ [0] ++ infoR alg sum, 0) := if_neg (by omega)
  have hil := info_len (alg := alg) (sum := sum) (by omega)
  simp (disch := omega) only [wu64, wu32, wu8, fdiv_nn, EO, ↓EP, EQ, EM, ↓reduceIte, Int.reduceAdd, Int.reduceEq, Int.reduceLE, Int.reduceLT, Int.reduceMul, Int.reduceNeg, Int.reducePow, Int.reduceSub, Int.reduceToNat, Nat.reduceAdd, Nat.reduceEqDiff, Nat.reduceLT, Nat.reduceLeDiff, Nat.reduceMul, reduceCtorEq, Bool.not_true, c3]
  refine info_k hv (by omega) fun v1 w1 g1 => ?_
  obtain ⟨A1, d1, rfl, hd1, hr1, _⟩ := g1.sl.read
  by_cases c4 : n < (infoR alg sum).length + 11
  · rw [if_pos c4] at hR
    rw [hR] at hK
    simp (disch := omega) only [wu64, wu32, wu8, fdiv_nn, EO, ↓EP, EQ, EM, ↓reduceIte, Int.reduceAdd, Int.reduceEq, Int.reduceLE, Int.reduceLT, Int.reduceMul, Int.reduceNeg, Int.reducePow, Int.reduceSub, Int.reduceToNat, Nat.reduceAdd, Nat.reduceEqDiff, Nat.reduceLT, Nat.reduceLeDiff, Nat.reduceMul, reduceCtorEq, c4]
    exact hK _ _ ⟨Sl.nil _ _, (fun b e => by cases e), g1.fr⟩
  rw [if_neg c4] at hR
  rw [hR] at hK
  obtain ⟨q, hq⟩ : ∃ q : Nat, n = (infoR alg sum).length + 3 + q := ⟨(n - (infoR alg sum).length - 3).toNat, by omega⟩
  have hq1 : n.toNat - (infoR alg sum).length - 3 = q := by omega
  rw [hq1] at hK
  simp (disch := omega) only [wu64, wu32, wu8, fdiv_nn, EO, ↓EP, EQ, EM, ↓reduceIte, Int.reduceAdd, Int.reduceEq, Int.reduceLE, Int.reduceLT, Int.reduceMul, Int.reduceNeg, Int.reducePow, Int.reduceSub, Int.reduceToNat, Nat.reduceAdd, Nat.reduceEqDiff, Nat.reduceLT, Nat.reduceLeDiff, Nat.reduceMul, reduceCtorEq, c4]
  refine bsl2 fun w2 n2 => ?_
  have G2 : Gw .u8 w1 w2 (.slice (some ⟨w1.heap.size, 0, none⟩) 2 2) [0, 1] := ⟨n2.sl, fun b e => by cases e; exact Nat.le_refl _, n2.fr nob⟩
  simp (disch := omega) only [wu64, wu32, wu8, fdiv_nn, EO, ↓EP, EQ, EM, ↓reduceIte, Int.reduceAdd, Int.reduceEq, Int.reduceLE, Int.reduceLT, Int.reduceMul, Int.reduceNeg, Int.reducePow, Int.reduceSub, Int.reduceToNat, Nat.reduceAdd, Nat.reduceEqDiff, Nat.reduceLT, Nat.reduceLeDiff, Nat.reduceMul, reduceCtorEq]
  refine bsl1 fun w3 n3 => ?_
  have f3 := n3.fr nob
  have e1 : n - ((infoR alg sum).length : Int) - 3 = (q : Int) := by omega
  simp (disch := omega) only [wu64, wu32, wu8, fdiv_nn, EO, ↓EP, EQ, EM, ↓reduceIte, Int.reduceAdd, Int.reduceEq, Int.reduceLE, Int.reduceLT, Int.reduceMul, Int.reduceNeg, Int.reducePow, Int.reduceSub, Int.reduceToNat, Nat.reduceAdd, Nat.reduceEqDiff, Nat.reduceLT, Nat.reduceLeDiff, Nat.reduceMul, reduceCtorEq, e1]
  refine repeat_k n3.rdl (by omega) (by omega) fun A4 d4 w4 hd4 hr4 f4 => ?_
  simp (disch := omega) only [wu64, wu32, wu8, fdiv_nn, EO, ↓EP, EQ, EM, ↓reduceIte, Int.reduceAdd, Int.reduceEq, Int.reduceLE, Int.reduceLT, Int.reduceMul, Int.reduceNeg, Int.reducePow, Int.reduceSub, Int.reduceToNat, Nat.reduceAdd, Nat.reduceEqDiff, Nat.reduceLT, Nat.reduceLeDiff, Nat.reduceMul, reduceCtorEq]
  refine app_num ((G2.step f3).step f4).sl (by simp) hr4 (by simp; omega) (by decide) fun v5 w5 a5 => ?_
  have G5 := ((G2.step f3).step f4).apd a5
  obtain ⟨A5, d5, rfl, _, _, _⟩ := G5.sl.read
  simp (disch := omega) only [wu64, wu32, wu8, fdiv_nn, EO, ↓EP, EQ, EM, ↓reduceIte, Int.reduceAdd, Int.reduceEq, Int.reduceLE, Int.reduceLT, Int.reduceMul, Int.reduceNeg, Int.reducePow, Int.reduceSub, Int.reduceToNat, Nat.reduceAdd, Nat.reduceEqDiff, Nat.reduceLT, Nat.reduceLeDiff, Nat.reduceMul, reduceCtorEq]
  refine bsl1 fun w6 n6 => ?_
  have f6 := n6.fr nob
  simp (disch := omega) only [wu64, wu32, wu8, fdiv_nn, EO, ↓EP, EQ, EM, ↓reduceIte, Int.reduceAdd, Int.reduceEq, Int.reduceLE, Int.reduceLT, Int.reduceMul, Int.reduceNeg, Int.reducePow, Int.reduceSub, Int.reduceToNat, Nat.reduceAdd, Nat.reduceEqDiff, Nat.reduceLT, Nat.reduceLeDiff, Nat.reduceMul, reduceCtorEq]
  refine app_num (G5.step f6).sl rfl n6.rdl (by simp; omega) (by decide) fun v7 w7 a7 => ?_
  have G7 := (G5.step f6).apd a7
  obtain ⟨A7, d7, rfl, _, _, _⟩ := G7.sl.read
  have hr8 : Rd w7 A1 (nums .u8 (infoR alg sum)) := hr1.nb G7.fr
  simp (disch := omega) only [wu64, wu32, wu8, fdiv_nn, EO, ↓EP, EQ, EM, ↓reduceIte, Int.reduceAdd, Int.reduceEq, Int.reduceLE, Int.reduceLT, Int.reduceMul, Int.reduceNeg, Int.reducePow, Int.reduceSub, Int.reduceToNat, Nat.reduceAdd, Nat.reduceEqDiff, Nat.reduceLT, Nat.reduceLeDiff, Nat.reduceMul, reduceCtorEq]
  refine app_num G7.sl rfl hr8 (by simp; omega) (by decide) fun v8 w8 a8 => ?_
  have G8 := G7.apd a8
  simp (disch := omega) only [wu64, wu32, wu8, fdiv_nn, EO, ↓EP, EQ, EM, ↓reduceIte, Int.reduceAdd, Int.reduceEq, Int.reduceLE, Int.reduceLT, Int.reduceMul, Int.reduceNeg, Int.reducePow, Int.reduceSub, Int.reduceToNat, Nat.reduceAdd, Nat.reduceEqDiff, Nat.reduceLT, Nat.reduceLeDiff, Nat.reduceMul, reduceCtorEq]
  refine hK _ w8 ⟨G8.sl, fun b e => ?_, g1.fr.nb G8.fr⟩
  have := G8.up b e
  have := g1.fr.size
  omega
end Go.Proofs.YtcgplgpdcfocpaaDoor.Der
end
section
set_option linter.unusedVariables false
set_option linter.unusedSimpArgs false
namespace Go.Proofs.YtcgplgpdcfocpaaDoor.Der
open Go Go.RowKit Go.Proofs Go.Proofs.YtcgplgpdcfocpaaDoor.Eng Go.Proofs.YtcgplgpdcfocpaaDoor.Code
set_option maxRecDepth 100000
attribute [local irreducible] callK S.W opsW scrW scrT
open Go.Proofs.YtcgplgpdcfocpaaDoor.Spec
attribute [local irreducible] putR putOidR infoR
end Go.Proofs.YtcgplgpdcfocpaaDoor.Der
end
section
set_option linter.unusedVariables false
set_option linter.unusedSimpArgs false
namespace Go.Proofs.YtcgplgpdcfocpaaDoor.Dg
open Go Go.Proofs.YtcgplgpdcfocpaaDoor.Eng
def pw (k : Nat) : Int := 65536 ^ k
theorem pw_zero : pw 0 = 1 := rfl
theorem pw_succ (k : Nat) : pw (k + 1) = pw k * 65536 := by unfold pw; exact Int.pow_succ _ _
theorem pw_pos (k : Nat) : 0 < pw k := by unfold pw; exact Int.pow_pos (by decide)
theorem pw_add (a b : Nat) : pw (a + b) = pw a * pw b := by unfold pw; exact Int.pow_add _ _ _
theorem pw_le {a b : Nat} (h : a ≤ b) : pw a ≤ pw b := by
  obtain ⟨d, rfl⟩ := Nat.exists_eq_add_of_le h
  rw [pw_add]
  have h1 := pw_pos a
  have h2 := pw_pos d
  have := Int.mul_le_mul_of_nonneg_left (show (1 : Int) ≤ pw d by omega) (show (0 : Int) ≤ pw a by omega)
  omega
attribute [irreducible] pw
def val : List Int → Int
  | [] => 0
  | x :: r => x + 65536 * val r
def Lim (l : List Int) : Prop := ∀ x ∈ l, 0 ≤ x ∧ x < 65536
theorem val_nil : val [] = 0 := rfl
theorem val_cons (x : Int) (r : List Int) : val (x :: r) = x + 65536 * val r := rfl
theorem val_one (x : Int) : val [x] = x := by rw [val_cons, val_nil]; omega
theorem Lim.nil : Lim [] := fun x h => by cases h
theorem Lim.cons {x : Int} {r : List Int} (h : Lim (x :: r)) : (0 ≤ x ∧ x < 65536) ∧ Lim r := ⟨h x (by simp), fun y hy => h y (by simp [hy])⟩
theorem Lim.mk {x : Int} {r : List Int} (h0 : 0 ≤ x) (h1 : x < 65536) (h : Lim r) : Lim (x :: r) := fun y hy => by
  rcases List.mem_cons.1 hy with rfl | hy
  · exact ⟨h0, h1⟩
  · exact h y hy
theorem Lim.app {a b : List Int} (ha : Lim a) (hb : Lim b) : Lim (a ++ b) := fun x hx => by
  rcases List.mem_append.1 hx with h | h
  · exact ha x h
  · exact hb x h
theorem Lim.take {l : List Int} (h : Lim l) (n : Nat) : Lim (l.take n) := fun x hx => h x (List.mem_of_mem_take hx)
theorem Lim.drop {l : List Int} (h : Lim l) (n : Nat) : Lim (l.drop n) := fun x hx => h x (List.mem_of_mem_drop hx)
theorem Lim.set {l : List Int} (h : Lim l) (n : Nat) {x : Int} (h0 : 0 ≤ x) (h1 : x < 65536) : Lim (l.set n x) := fun y hy => by
  rcases List.mem_or_eq_of_mem_set hy with h' | rfl
  · exact h y h'
  · exact ⟨h0, h1⟩
theorem at_nat (l : List Int) (k : Nat) : at' l k = l.getD k 0 := by unfold at'; rw [Int.toNat_natCast]
theorem Lim.at {l : List Int} (h : Lim l) (i : Int) : 0 ≤ at' l i ∧ at' l i < 65536 := by
  unfold at'
  rw [List.getD_eq_getElem?_getD]
  cases e : l[i.toNat]? with
  | none => simp
  | some x => exact h x (List.mem_of_getElem? e)
theorem at_ge {l : List Int} {k : Nat} (h : l.length ≤ k) : at' l k = 0 := by rw [at_nat, List.getD_eq_getElem?_getD, List.getElem?_eq_none h]; rfl
theorem at_get {l : List Int} {k : Nat} (h : k < l.length) : at' l k = l[k] := by rw [at_nat, List.getD_eq_getElem?_getD, List.getElem?_eq_getElem h]; rfl
theorem at_take {l : List Int} {k n : Nat} (h : k < n) : at' (l.take n) k = at' l k := by
  rw [at_nat, at_nat, List.getD_eq_getElem?_getD, List.getD_eq_getElem?_getD, List.getElem?_take, if_pos h]
theorem at_drop (l : List Int) (k n : Nat) : at' (l.drop n) k = at' l (n + k : Nat) := by
  rw [at_nat, at_nat, List.getD_eq_getElem?_getD, List.getD_eq_getElem?_getD, List.getElem?_drop]
theorem val_app : ∀ (a b : List Int), val (a ++ b) = val a + pw a.length * val b
  | [], b => by rw [List.nil_append, List.length_nil, val_nil, pw_zero]; omega
  | x :: a, b => by
    rw [List.cons_append, val_cons, val_cons, val_app a b, List.length_cons, pw_succ]
    grind
theorem val_bd : ∀ {l : List Int}, Lim l → 0 ≤ val l ∧ val l < pw l.length
  | [], _ => by rw [val_nil, List.length_nil, pw_zero]; omega
  | x :: r, h => by
    obtain ⟨hx, hr⟩ := h.cons
    have := val_bd hr
    rw [val_cons, List.length_cons, pw_succ]
    omega
theorem val_zeros (n : Nat) : val (List.replicate n 0) = 0 := by
  induction n with
  | zero => rfl
  | succ n ih => rw [List.replicate_succ, val_cons, ih]; rfl
theorem val_take_succ {l : List Int} {k : Nat} (h : k < l.length) : val (l.take (k + 1)) = val (l.take k) + at' l k * pw k := by
  have e : l.take (k + 1) = l.take k ++ [at' l k] := by
    rw [List.take_add_one, List.getElem?_eq_getElem h, at_get h]; rfl
  have hk : (l.take k).length = k := by rw [List.length_take]; omega
  rw [e, val_app, hk, val_one]
  grind
theorem val_split (l : List Int) {k : Nat} (h : k ≤ l.length) : val l = val (l.take k) + pw k * val (l.drop k) := by
  have hk : (l.take k).length = k := by rw [List.length_take]; omega
  have := val_app (l.take k) (l.drop k)
  rwa [List.take_append_drop, hk] at this
theorem val_one_more {l : List Int} (h : l ≠ []) : ∃ k : Nat, l.length = k + 1 ∧ val l = val (l.take k) + at' l k * pw k := by
  obtain ⟨k, hk⟩ : ∃ k, l.length = k + 1 := ⟨l.length - 1, by have := List.length_pos_iff.2 h; omega⟩
  refine ⟨k, hk, ?_⟩
  rw [← val_take_succ (by omega), ← hk, List.take_length]
def Can (l : List Int) : Prop := Lim l ∧ (l = [] ∨ at' l ((l.length - 1 : Nat) : Int) ≠ 0)
theorem Can.nil : Can [] := ⟨Lim.nil, .inl rfl⟩
theorem Can.pos {l : List Int} (h : Can l) (h0 : l ≠ []) : pw (l.length - 1) ≤ val l := by
  obtain ⟨k, hk, hv⟩ := val_one_more h0
  rcases h.2 with e | e
  · exact absurd e h0
  rw [show l.length - 1 = k by omega] at *
  have h1 := h.1.at k
  have h2 := val_bd (h.1.take k)
  have h3 := Int.mul_le_mul_of_nonneg_right (show (1 : Int) ≤ at' l k by omega) (show (0 : Int) ≤ pw k by have := pw_pos k; omega)
  omega
theorem Can.zero {l : List Int} (h : Can l) (hv : val l = 0) : l = [] := by
  by_cases h0 : l = []
  · exact h0
  · have := h.pos h0
    have := pw_pos (l.length - 1)
    omega
theorem Can.tail {x : Int} {r : List Int} (h : Can (x :: r)) : Can r := by
  refine ⟨h.1.cons.2, ?_⟩
  by_cases hr : r = []
  · exact .inl hr
  · rcases h.2 with e | e
    · cases e
    · right
      have := List.length_pos_iff.2 hr
      obtain ⟨k, hk⟩ : ∃ k, r.length = k + 1 := ⟨r.length - 1, by omega⟩
      rw [List.length_cons, hk] at e
      rw [hk]
      simp only [Nat.add_sub_cancel] at e ⊢
      rw [at_nat] at e ⊢
      simpa using e
theorem Can.uniq : ∀ {a b : List Int}, Can a → Can b → val a = val b → a = b
  | [], b, _, hb, h => (hb.zero h.symm).symm
  | x :: r, [], ha, _, h => ha.zero h
  | x :: r, y :: s, ha, hb, h => by
    rw [val_cons, val_cons] at h
    have h1 := ha.1.cons.1
    have h2 := hb.1.cons.1
    have e : x = y := by omega
    subst e
    rw [Can.uniq ha.tail hb.tail (by omega)]
def digsN : Nat → List Int
  | 0 => []
  | n + 1 => (((n + 1) % 65536 : Nat) : Int) :: digsN ((n + 1) / 65536)
termination_by n => n
decreasing_by omega
theorem digsN_can : ∀ n : Nat, Can (digsN n) ∧ val (digsN n) = n := by
  intro n
  induction n using Nat.strongRecOn with
  | ind n ih =>
    cases n with
    | zero => rw [digsN]; exact ⟨Can.nil, rfl⟩
    | succ n =>
      obtain ⟨hc, hv⟩ := ih ((n + 1) / 65536) (by omega)
      rw [digsN]
      refine ⟨⟨Lim.mk (by omega) (by omega) hc.1, .inr ?_⟩, by rw [val_cons, hv]; omega⟩
      by_cases h0 : digsN ((n + 1) / 65536) = []
      · rw [h0]
        rw [h0, val_nil] at hv
        rw [at_nat]
        simp only [List.length_cons, List.length_nil, Nat.add_sub_cancel]
        show (((n + 1) % 65536 : Nat) : Int) ≠ 0
        omega
      · rcases hc.2 with e | e
        · exact absurd e h0
        · have := List.length_pos_iff.2 h0
          obtain ⟨k, hk⟩ : ∃ k, (digsN ((n + 1) / 65536)).length = k + 1 := ⟨(digsN ((n + 1) / 65536)).length - 1, by omega⟩
          rw [hk] at e
          rw [List.length_cons, hk]
          simp only [Nat.add_sub_cancel] at e ⊢
          rw [at_nat] at e ⊢
          simpa using e
def digs (v : Int) : List Int := digsN v.toNat
theorem digs_can (v : Int) : Can (digs v) := (digsN_can _).1
theorem digs_val {v : Int} (h : 0 ≤ v) : val (digs v) = v := by unfold digs; rw [(digsN_can _).2]; omega
theorem digs_lim (v : Int) : Lim (digs v) := (digs_can v).1
theorem Can.eq {l : List Int} (h : Can l) {v : Int} (hv : val l = v) : l = digs v := by
  have := val_bd h.1
  exact h.uniq (digs_can v) (by rw [digs_val (by omega)]; exact hv)
theorem cut_can {l : List Int} (h : Lim l) {n : Nat} (hn : n ≤ l.length) (hz : ∀ j : Nat, n ≤ j → j < l.length → at' l j = 0) (ht : n = 0 ∨ at' l ((n - 1 : Nat) : Int) ≠ 0) : l.take n = digs (val l) := by
  have hv : val (l.drop n) = 0 := by
    have : l.drop n = List.replicate (l.length - n) 0 := by
      apply List.ext_getElem
      · simp
      · intro i h1 h2
        simp only [List.length_drop] at h1
        rw [List.getElem_drop, List.getElem_replicate, ← at_get (by omega)]
        exact hz (n + i) (by omega) (by omega)
    rw [this, val_zeros]
  refine Can.eq ⟨h.take n, ?_⟩ (by rw [val_split l hn, hv]; omega)
  rcases ht with rfl | ht
  · left; simp
  · by_cases h0 : n = 0
    · left; subst h0; simp
    · right
      rw [List.length_take, Nat.min_eq_left hn, at_take (by omega)]
      exact ht
theorem digs_len {v : Int} (h : 0 ≤ v) {k : Nat} : (digs v).length ≤ k ↔ v < pw k := by
  have hv := digs_val h
  have hb := val_bd (digs_lim v)
  constructor
  · intro hk
    have := pw_le hk
    omega
  · intro hk
    by_cases h0 : digs v = []
    · rw [h0]; exact Nat.zero_le _
    · have hp := (digs_can v).pos h0
      rw [hv] at hp
      by_cases hle : (digs v).length ≤ k
      · exact hle
      · have := pw_le (show k ≤ (digs v).length - 1 by omega)
        omega
theorem Can.digs {l : List Int} (h : Can l) : digs (val l) = l := (h.eq rfl).symm
attribute [irreducible] digs
end Go.Proofs.YtcgplgpdcfocpaaDoor.Dg
end
section
set_option linter.unusedVariables false
set_option linter.unusedSimpArgs false
namespace Go.Proofs.YtcgplgpdcfocpaaDoor.Big
open Go Go.Proofs.YtcgplgpdcfocpaaDoor.Eng
theorem dpw (k : Nat) : pw k = Dg.pw (2 * k) := by
  induction k with
  | zero => rw [pw_zero, Nat.mul_zero, Dg.pw_zero]
  | succ k ih => rw [pw_succ, show 2 * (k + 1) = 2 * k + 1 + 1 by omega, Dg.pw_succ, Dg.pw_succ, ih]; omega
def sp : List Int → List Int
  | [] => []
  | x :: r => x % 65536 :: x / 65536 :: sp r
theorem sp_app : ∀ (a b : List Int), sp (a ++ b) = sp a ++ sp b
  | [], _ => rfl
  | x :: a, b => by rw [List.cons_append, sp, sp, sp_app a b]; rfl
theorem sp_len : ∀ (l : List Int), (sp l).length = 2 * l.length
  | [] => rfl
  | x :: r => by rw [sp, List.length_cons, List.length_cons, sp_len r, List.length_cons]; omega
theorem sp_lim : ∀ {l : List Int}, Lim l → Dg.Lim (sp l)
  | [], _ => Dg.Lim.nil
  | x :: r, h => by
    obtain ⟨hx, hr⟩ := h.cons
    exact Dg.Lim.mk (by omega) (by omega) (Dg.Lim.mk (by omega) (by omega) (sp_lim hr))
theorem sp_val : ∀ (l : List Int), Dg.val (sp l) = val l
  | [] => rfl
  | x :: r => by rw [sp, Dg.val_cons, Dg.val_cons, val_cons, sp_val r]; omega
theorem sp_snoc (l : List Int) {k : Nat} (h : k < l.length) : sp (l.take (k + 1)) = sp (l.take k) ++ [at' l k % 65536, at' l k / 65536] := by
  have e : l.take (k + 1) = l.take k ++ [at' l k] := by
    rw [List.take_add_one, List.getElem?_eq_getElem h, at_get h]; rfl
  rw [e, sp_app]; rfl
theorem digs_len_of {v : Int} {n : Nat} (h : 0 ≤ v) (hn : v < pw n) : (Dg.digs v).length ≤ 2 * n := (Dg.digs_len h).2 (by rw [← dpw]; exact hn)
end Go.Proofs.YtcgplgpdcfocpaaDoor.Big
end
section
set_option linter.unusedVariables false
set_option linter.unusedSimpArgs false
namespace Go.Proofs.YtcgplgpdcfocpaaDoor.Spec
open Go Go.RowKit Go.Proofs Go.Proofs.YtcgplgpdcfocpaaDoor.Eng Go.Proofs.YtcgplgpdcfocpaaDoor.Code Go.Proofs.YtcgplgpdcfocpaaDoor.Big
set_option maxRecDepth 100000
attribute [local irreducible] callK S.W opsW scrW
theorem plain_spec {w : World} {A : Option Addr} {n c : Nat} {l : List Int} (hn : l.length = n) (hl : Rd w A (nums .u64 l)) (hL : Dg.Lim l) (hc : n ≤ c) (h63 : n ≤ 4611686018427387904) (K : Value → World → Prop)
    (hK : ∀ m, m ≤ n → l.take m = Dg.digs (Dg.val l) → m = (Dg.digs (Dg.val l)).length → K (.slice A m c) w) : callK Tryd.prog 76 [.slice A n c] w K := by
  refine call_of Tryd.func76 Code.h76 (by simp [Code.c76]) ?_
  subst hn
  simp (disch := omega) only [EO, ↓EP, EQ, EM, ↓reduceIte, Int.reduceAdd, Int.reduceEq, Int.reduceLE, Int.reduceLT, Int.reduceMul, Int.reduceNeg, Int.reducePow, Int.reduceSub, Int.reduceToNat, Nat.reduceAdd, Nat.reduceEqDiff, Nat.reduceLT, Nat.reduceLeDiff, Nat.reduceMul, reduceCtorEq, Code.c76]
  refine loop_inv (fun t ρ w' => w' = w ∧ ρ 3 = .int .i64 t ∧ t ≤ l.length ∧ ∀ j : Nat, t ≤ j → j < l.length → at' l j = 0) l.length ⟨rfl, by simp (disch := omega) only [EO, ↓EP, EQ, EM, ↓reduceIte, Int.reduceAdd, Int.reduceEq, Int.reduceLE, Int.reduceLT, Int.reduceMul, Int.reduceNeg, Int.reducePow, Int.reduceSub, Int.reduceToNat, Nat.reduceAdd, Nat.reduceEqDiff, Nat.reduceLT, Nat.reduceLeDiff, Nat.reduceMul, reduceCtorEq], Nat.le_refl _, fun j h1 h2 => by omega⟩ ?_
  rintro t ρ w' hf ⟨rfl, h3, ht, hz⟩ N hN
  have r0 : ρ 0 = .slice A l.length c := by rw [hf 0 rfl]; simp only [↓EP, EQ, EM, ↓reduceIte, Int.reduceAdd, Int.reduceEq, Int.reduceLE, Int.reduceLT, Int.reduceMul, Int.reduceNeg, Int.reducePow, Int.reduceSub, Int.reduceToNat, Nat.reduceAdd, Nat.reduceEqDiff, Nat.reduceLT, Nat.reduceLeDiff, Nat.reduceMul, reduceCtorEq]
  clear hf
  have fin : (t = 0 ∨ at' l ((t - 1 : Nat) : Int) ≠ 0) → K (.slice A t c) w' := fun h => by
    have e := Dg.cut_can hL ht hz h
    exact hK t ht e (by rw [← e, List.length_take]; omega)
  cases t with
  | zero =>
    simp (disch := omega) only [EO, ↓EP, EQ, EM, ↓reduceIte, Int.reduceAdd, Int.reduceEq, Int.reduceLE, Int.reduceLT, Int.reduceMul, Int.reduceNeg, Int.reducePow, Int.reduceSub, Int.reduceToNat, Nat.reduceAdd, Nat.reduceEqDiff, Nat.reduceLT, Nat.reduceLeDiff, Nat.reduceMul, reduceCtorEq, h3, r0, Int.natCast_zero]
    exact fin (.inl rfl)
  | succ k =>
    obtain ⟨p, rfl, _, hp⟩ := hl.get (by rw [nums_length]; omega)
    have cp := hp.numN (j := k) (by omega)
    have e1 : ((k + 1 : Nat) : Int) - 1 = k := by omega
    by_cases he : at' l k = 0
    · simp (disch := omega) only [EO, ↓EP, EQ, EM, ↓reduceIte, Int.reduceAdd, Int.reduceEq, Int.reduceLE, Int.reduceLT, Int.reduceMul, Int.reduceNeg, Int.reducePow, Int.reduceSub, Int.reduceToNat, Nat.reduceAdd, Nat.reduceEqDiff, Nat.reduceLT, Nat.reduceLeDiff, Nat.reduceMul, reduceCtorEq, h3, r0, e1, cp, he]
      exact hN k _ _ (by omega) ⟨rfl, by simp (disch := omega) only [EO, ↓EP, EQ, EM, ↓reduceIte, Int.reduceAdd, Int.reduceEq, Int.reduceLE, Int.reduceLT, Int.reduceMul, Int.reduceNeg, Int.reducePow, Int.reduceSub, Int.reduceToNat, Nat.reduceAdd, Nat.reduceEqDiff, Nat.reduceLT, Nat.reduceLeDiff, Nat.reduceMul, reduceCtorEq], by omega, fun j h1 h2 => by
        by_cases hj : j = k
        · subst hj; exact he
        · exact hz j (by omega) h2⟩
    · have hf : (at' l k = 0) = False := eq_false he
      simp (disch := omega) only [EO, ↓EP, EQ, EM, ↓reduceIte, Int.reduceAdd, Int.reduceEq, Int.reduceLE, Int.reduceLT, Int.reduceMul, Int.reduceNeg, Int.reducePow, Int.reduceSub, Int.reduceToNat, Nat.reduceAdd, Nat.reduceEqDiff, Nat.reduceLT, Nat.reduceLeDiff, Nat.reduceMul, reduceCtorEq, h3, r0, e1, cp, hf]
      exact fin (.inr (by rw [show k + 1 - 1 = k by omega]; exact he))
theorem plain_gw {w0 w : World} {v : Value} {l : List Int} (g : Gw .u64 w0 w v l) (hL : Dg.Lim l) (h63 : l.length ≤ 4611686018427387904) (K : Value → World → Prop)
    (hK : ∀ v', Gw .u64 w0 w v' (Dg.digs (Dg.val l)) → K v' w) : callK Tryd.prog 76 [v] w K := by
  have gs := g.sl
  rcases gs with ⟨rfl, rfl⟩ | ⟨b, pad, rfl, hB⟩
  · refine plain_spec rfl (.inl rfl) hL (Nat.le_refl _) (by simp) _ fun m hm he _ => ?_
    obtain rfl : m = 0 := by simpa using hm
    refine hK _ ?_
    rw [← he]
    exact (Gw.nil .u64 w).from g.fr
  · refine plain_spec rfl g.sl.rdOf hL (by omega) h63 _ fun m hm he _ => hK _ ?_
    refine own_cut hB (g.up b rfl) g.fr (by simp) (by omega) ?_
    rw [List.take_append_of_le_length hm, he]
theorem and65535 {x : Int} (h0 : 0 ≤ x) (h1 : x < 4294967296) : bits .and .u32 x 65535 = x % 65536 := by
  rw [u32_and _ _ (by omega) (by omega) (by omega) (by omega)]
  have := Nat.and_two_pow_sub_one_eq_mod x.toNat 16
  rw [show (65535 : Int).toNat = 2 ^ 16 - 1 by rfl, this]
  omega
set_option maxHeartbeats 1000000 in
theorem digits_vw {w : World} {va : Value} {l : List Int} (ha : Vw .u32 w va l) (hL : Lim l) (h47 : l.length ≤ 4194304) (K : Value → World → Prop)
    (hK : ∀ v w', Gw .u64 w w' v (Dg.digs (val l)) → K v w') : callK Tryd.prog 49 [va] w K := by
  obtain ⟨A, c, rfl, hc, hr⟩ := ha
  refine call_of Tryd.func49 Code.h49 (by simp [Code.c49]) ?_
  simp (disch := omega) only [EO, ↓EP, EQ, EM, ↓reduceIte, Int.reduceAdd, Int.reduceEq, Int.reduceLE, Int.reduceLT, Int.reduceMul, Int.reduceNeg, Int.reducePow, Int.reduceSub, Int.reduceToNat, Nat.reduceAdd, Nat.reduceEqDiff, Nat.reduceLT, Nat.reduceLeDiff, Nat.reduceMul, reduceCtorEq, Code.c49]
  refine loop_inv (fun t ρ w' => ∃ (k : Nat) (v : Value), ρ 4 = .int .i64 k ∧ k ≤ l.length ∧ t = l.length - k ∧ ρ 3 = v ∧ Gw .u64 w w' v (sp (l.take k))) _ ⟨0, _, by simp (disch := omega) only [EO, ↓EP, EQ, EM, ↓reduceIte, Int.reduceAdd, Int.reduceEq, Int.reduceLE, Int.reduceLT, Int.reduceMul, Int.reduceNeg, Int.reducePow, Int.reduceSub, Int.reduceToNat, Nat.reduceAdd, Nat.reduceEqDiff, Nat.reduceLT, Nat.reduceLeDiff, Nat.reduceMul, reduceCtorEq], by omega, rfl, by simp (disch := omega) only [EO, ↓EP, EQ, EM, ↓reduceIte, Int.reduceAdd, Int.reduceEq, Int.reduceLE, Int.reduceLT, Int.reduceMul, Int.reduceNeg, Int.reducePow, Int.reduceSub, Int.reduceToNat, Nat.reduceAdd, Nat.reduceEqDiff, Nat.reduceLT, Nat.reduceLeDiff, Nat.reduceMul, reduceCtorEq], Gw.nil _ _⟩ ?_
  rintro t ρ w' hf ⟨k, v, h4, hk, rfl, h3, g⟩ N hN
  have q0 : ρ 0 = .slice A l.length c := by rw [hf 0 rfl]; simp (disch := omega) only [EO, ↓EP, EQ, EM, ↓reduceIte, Int.reduceAdd, Int.reduceEq, Int.reduceLE, Int.reduceLT, Int.reduceMul, Int.reduceNeg, Int.reducePow, Int.reduceSub, Int.reduceToNat, Nat.reduceAdd, Nat.reduceEqDiff, Nat.reduceLT, Nat.reduceLeDiff, Nat.reduceMul, reduceCtorEq]
  clear hf
  have hsl : (sp (l.take k)).length = 2 * k := by rw [sp_len, List.length_take]; omega
  by_cases hkl : (k : Int) < (l.length : Int)
  · obtain ⟨p, rfl, _, hp⟩ := (hr.nb g.fr).get (by rw [nums_length]; omega)
    have cp := hp.numN (j := k) (by omega)
    have bx := hL.at k
    have e1 := and65535 bx.1 bx.2
    simp (disch := omega) only [wu64, wu32, wu8, fdiv_nn, EO, ↓EP, EQ, EM, ↓reduceIte, Int.reduceAdd, Int.reduceEq, Int.reduceLE, Int.reduceLT, Int.reduceMul, Int.reduceNeg, Int.reducePow, Int.reduceSub, Int.reduceToNat, Nat.reduceAdd, Nat.reduceEqDiff, Nat.reduceLT, Nat.reduceLeDiff, Nat.reduceMul, reduceCtorEq, h4, h3, q0, cp, e1]
    intro m1
    refine bsl2 fun w2 n2 => ?_
    have f2 : Fr w' w2 nob := (Fr.drewN w' _ nob).nb (n2.fr nob)
    simp (disch := omega) only [wu64, wu32, wu8, fdiv_nn, EO, ↓EP, EQ, EM, ↓reduceIte, Int.reduceAdd, Int.reduceEq, Int.reduceLE, Int.reduceLT, Int.reduceMul, Int.reduceNeg, Int.reducePow, Int.reduceSub, Int.reduceToNat, Nat.reduceAdd, Nat.reduceEqDiff, Nat.reduceLT, Nat.reduceLeDiff, Nat.reduceMul, reduceCtorEq, h3]
    intro m2
    have f3 : Fr w2 (w2.drewN m2) nob := Fr.drewN w2 m2 nob
    refine app_num ((g.sl.nb f2).nb f3) rfl (n2.rdl.nb f3) (by rw [hsl]; simp; omega) (by omega) fun v4 w4 a4 => ?_
    have g4 := ((g.step f2).step f3).apd a4
    rw [← sp_snoc l (by omega)] at g4
    simp (disch := omega) only [wu64, wu32, wu8, fdiv_nn, EO, ↓EP, EQ, EM, ↓reduceIte, Int.reduceAdd, Int.reduceEq, Int.reduceLE, Int.reduceLT, Int.reduceMul, Int.reduceNeg, Int.reducePow, Int.reduceSub, Int.reduceToNat, Nat.reduceAdd, Nat.reduceEqDiff, Nat.reduceLT, Nat.reduceLeDiff, Nat.reduceMul, reduceCtorEq, h4]
    intro m3
    exact hN (l.length - (k + 1)) _ _ (by omega) ⟨k + 1, v4, by simp (disch := omega) only [EO, ↓EP, EQ, EM, ↓reduceIte, Int.reduceAdd, Int.reduceEq, Int.reduceLE, Int.reduceLT, Int.reduceMul, Int.reduceNeg, Int.reducePow, Int.reduceSub, Int.reduceToNat, Nat.reduceAdd, Nat.reduceEqDiff, Nat.reduceLT, Nat.reduceLeDiff, Nat.reduceMul, reduceCtorEq, h4, Int.natCast_add], by omega, rfl, by simp (disch := omega) only [EO, ↓EP, EQ, EM, ↓reduceIte, Int.reduceAdd, Int.reduceEq, Int.reduceLE, Int.reduceLT, Int.reduceMul, Int.reduceNeg, Int.reducePow, Int.reduceSub, Int.reduceToNat, Nat.reduceAdd, Nat.reduceEqDiff, Nat.reduceLT, Nat.reduceLeDiff, Nat.reduceMul, reduceCtorEq], g4.step (Fr.drewN w4 m3 nob)⟩
  · have hk : k = l.length := by omega
    subst hk
    rw [List.take_length] at g
    simp (disch := omega) only [EO, ↓EP, EQ, EM, ↓reduceIte, Int.reduceAdd, Int.reduceEq, Int.reduceLE, Int.reduceLT, Int.reduceMul, Int.reduceNeg, Int.reducePow, Int.reduceSub, Int.reduceToNat, Nat.reduceAdd, Nat.reduceEqDiff, Nat.reduceLT, Nat.reduceLeDiff, Nat.reduceMul, reduceCtorEq, h4, h3, q0]
    refine plain_gw g (sp_lim hL) (by rw [sp_len]; omega) _ fun v5 g5 => ?_
    rw [sp_val] at g5
    simp (disch := omega) only [EO, ↓EP, EQ, EM, ↓reduceIte, Int.reduceAdd, Int.reduceEq, Int.reduceLE, Int.reduceLT, Int.reduceMul, Int.reduceNeg, Int.reducePow, Int.reduceSub, Int.reduceToNat, Nat.reduceAdd, Nat.reduceEqDiff, Nat.reduceLT, Nat.reduceLeDiff, Nat.reduceMul, reduceCtorEq]
    exact hK v5 w' g5
end Go.Proofs.YtcgplgpdcfocpaaDoor.Spec
end
section
set_option linter.unusedVariables false
set_option linter.unusedSimpArgs false
namespace Go.Proofs.YtcgplgpdcfocpaaDoor.Spec
open Go Go.RowKit Go.Proofs Go.Proofs.YtcgplgpdcfocpaaDoor.Eng Go.Proofs.YtcgplgpdcfocpaaDoor.Code Go.Proofs.YtcgplgpdcfocpaaDoor.Big
set_option maxRecDepth 100000
attribute [local irreducible] callK S.W opsW scrW
end Go.Proofs.YtcgplgpdcfocpaaDoor.Spec
end
section
set_option linter.unusedVariables false
set_option linter.unusedSimpArgs false
namespace Go.Proofs.YtcgplgpdcfocpaaDoor.Spec
open Go Go.RowKit Go.Proofs Go.Proofs.YtcgplgpdcfocpaaDoor.Eng Go.Proofs.YtcgplgpdcfocpaaDoor.Code
set_option maxRecDepth 100000
structure Lnt (k : IntKind) (w0 w : World) (v : Value) (l : List Int) (x y : Int) : Prop where
  ex : ∃ b pad, v = .slice (some ⟨b, 0, none⟩) l.length (l.length + (2 + pad.length)) ∧ Blk w b (nums k (l ++ [x, y] ++ pad)) ∧ w0.heap.size ≤ b
theorem Lnt.fr {k : IntKind} {w0 w w' : World} {v : Value} {l : List Int} {x y : Int} (h : Lnt k w0 w v l x y) {P : Nat → Prop} (f : Fr w w' P) (hp : ∀ b, blkOf v = some b → ¬ P b) : Lnt k w0 w' v l x y := by
  obtain ⟨b, pad, rfl, hB, hb⟩ := h.ex
  exact ⟨b, pad, rfl, hB.fr f (hp b rfl), hb⟩
theorem Lnt.read {k : IntKind} {w0 w : World} {v : Value} {l : List Int} {x y : Int} (h : Lnt k w0 w v l x y) : ∃ b c, v = .slice (some ⟨b, 0, none⟩) l.length c ∧ l.length + 2 ≤ c ∧ w0.heap.size ≤ b ∧ Rd w (some ⟨b, 0, none⟩) (nums k l) := by
  obtain ⟨b, pad, rfl, hB, hb⟩ := h.ex
  exact ⟨b, _, rfl, by omega, hb, hB.rd 0 (n := l.length) (by rw [List.drop_zero, nums_take]; simp)⟩
end Go.Proofs.YtcgplgpdcfocpaaDoor.Spec
end
section
set_option linter.unusedVariables false
set_option linter.unusedSimpArgs false
namespace Go.Proofs.YtcgplgpdcfocpaaDoor.Spec
open Go Go.RowKit Go.Proofs Go.Proofs.YtcgplgpdcfocpaaDoor.Eng Go.Proofs.YtcgplgpdcfocpaaDoor.Code Go.Proofs.YtcgplgpdcfocpaaDoor.Big
set_option maxRecDepth 100000
attribute [local irreducible] callK S.W opsW scrW
theorem Gw.slice {k : IntKind} {w w' : World} {v : Value} {l : List Int} (g : Gw k w w' v l) : ∃ B d, v = .slice B l.length d := by
  obtain ⟨B, d, e, _⟩ := g.vw
  exact ⟨B, d, e⟩
theorem Lnt.vw {k : IntKind} {w0 w : World} {v : Value} {l : List Int} {x y : Int} (h : Lnt k w0 w v l x y) : Vw k w v l := by
  obtain ⟨b, c, rfl, hc, _, hr⟩ := h.read
  exact ⟨_, c, rfl, by omega, hr⟩
theorem Lnt.nb {k : IntKind} {w0 w w' : World} {v : Value} {l : List Int} {x y : Int} (h : Lnt k w0 w v l x y) (f : Fr w w' nob) : Lnt k w0 w' v l x y := h.fr f fun _ _ e => e
end Go.Proofs.YtcgplgpdcfocpaaDoor.Spec
end
section
set_option linter.unusedVariables false
set_option linter.unusedSimpArgs false
namespace Go.Proofs.YtcgplgpdcfocpaaDoor.Spec
open Go Go.RowKit Go.Proofs Go.Proofs.YtcgplgpdcfocpaaDoor.Eng Go.Proofs.YtcgplgpdcfocpaaDoor.Code Go.Proofs.YtcgplgpdcfocpaaDoor.Big
set_option maxRecDepth 100000
attribute [local irreducible] callK S.W opsW scrW
end Go.Proofs.YtcgplgpdcfocpaaDoor.Spec
end
section
set_option linter.unusedVariables false
set_option linter.unusedSimpArgs false
namespace Go.Proofs.YtcgplgpdcfocpaaDoor.Big
open Go Go.Proofs.YtcgplgpdcfocpaaDoor.Eng
theorem dpw_p2 (k : Nat) : Dg.pw k = 2 ^ (16 * k) := by
  induction k with
  | zero => rw [Dg.pw_zero]; rfl
  | succ k ih => rw [Dg.pw_succ, ih, show 16 * (k + 1) = 16 * k + 16 by omega, Int.pow_add]; rfl
theorem digit_bits {l : List Int} (hL : Dg.Lim l) (i r s : Nat) (hr : r + s ≤ 16) : at' l (i : Nat) / 2 ^ r % 2 ^ s = Dg.val l / 2 ^ (16 * i + r) % 2 ^ s := by
  have e1 : Dg.val l = Dg.val (l.take i) + Dg.pw i * Dg.val (l.drop i) := by
    by_cases h : i ≤ l.length
    · exact Dg.val_split l h
    · rw [List.take_of_length_le (by omega), List.drop_of_length_le (by omega), Dg.val_nil]; omega
  have b1 := Dg.val_bd (hL.take i)
  have e2 : Dg.val (l.drop i) = at' l (i : Nat) + 65536 * Dg.val (l.drop (i + 1)) := by
    by_cases h : i < l.length
    · rw [List.drop_eq_getElem_cons h, Dg.val_cons, at_get h]
    · rw [at_ge (by omega), List.drop_of_length_le (by omega), List.drop_of_length_le (by omega)]; rfl
  have bt : Dg.val (l.take i) < Dg.pw i := by
    have := Dg.pw_le (show (l.take i).length ≤ i by simp; omega)
    omega
  have hpw := Dg.pw_pos i
  have hd : Dg.val l / Dg.pw i = Dg.val (l.drop i) := by
    rw [e1, Int.add_mul_ediv_left _ _ (by omega), Int.ediv_eq_zero_of_lt b1.1 bt, Int.zero_add]
  have hp : (0 : Int) < 2 ^ r := p2_pos r
  have e3 : (2 : Int) ^ (16 * i + r) = Dg.pw i * 2 ^ r := by rw [dpw_p2, Int.pow_add]
  rw [e3, ← Int.ediv_ediv_of_nonneg (by omega), hd, e2]
  have e4 : (65536 : Int) = 2 ^ r * (2 ^ s * 2 ^ (16 - r - s)) := by
    rw [← Int.pow_add, ← Int.pow_add, show r + (s + (16 - r - s)) = 16 by omega]; rfl
  rw [e4, Int.mul_assoc, Int.add_mul_ediv_left _ _ (by omega), Int.mul_assoc, Int.add_mul_emod_self_left]
end Go.Proofs.YtcgplgpdcfocpaaDoor.Big
end
section
set_option linter.unusedVariables false
set_option linter.unusedSimpArgs false
namespace Go.Proofs.YtcgplgpdcfocpaaDoor.Spec
open Go Go.RowKit Go.Proofs Go.Proofs.YtcgplgpdcfocpaaDoor.Eng Go.Proofs.YtcgplgpdcfocpaaDoor.Code Go.Proofs.YtcgplgpdcfocpaaDoor.Big
set_option maxRecDepth 100000
attribute [local irreducible] callK S.W opsW scrW
theorem and1 {x : Int} (h0 : 0 ≤ x) (h1 : x < 18446744073709551616) : bits .and .u64 x 1 = x % 2 := by
  rw [u64_and _ _ (by omega) (by omega) (by omega) (by omega)]
  have := Nat.and_two_pow_sub_one_eq_mod x.toNat 1
  rw [show (1 : Int).toNat = 2 ^ 1 - 1 by rfl, this]
  omega
set_option maxHeartbeats 1000000 in
theorem rbits_vw {w : World} {va : Value} {l : List Int} (ha : Vw .u32 w va l) (hL : Lim l) (h47 : l.length ≤ 4194304) (K : Value → World → Prop)
    (hK : ∀ w', Fr w w' nob → K (.int .i64 (bl (val l) : Int)) w') : callK Tryd.prog 26 [va] w K := by
  have b1 := (val_bd hL).1
  refine call_of Tryd.func26 Code.h26 (by simp [Code.c26]) ?_
  simp (disch := omega) only [EO, ↓EP, EQ, EM, ↓reduceIte, Int.reduceAdd, Int.reduceEq, Int.reduceLE, Int.reduceLT, Int.reduceMul, Int.reduceNeg, Int.reducePow, Int.reduceSub, Int.reduceToNat, Nat.reduceAdd, Nat.reduceEqDiff, Nat.reduceLT, Nat.reduceLeDiff, Nat.reduceMul, reduceCtorEq, Code.c26]
  refine digits_vw ha hL h47 _ fun v1 w1 g1 => ?_
  have k1 := digs_len_of b1 (n := l.length) (val_bd hL).2
  have DL := Dg.digs_lim (val l)
  have hdv := Dg.digs_val b1
  have hlt0 : val l < 2 ^ (16 * (Dg.digs (val l)).length) := by
    have := (Dg.val_bd DL).2
    rw [hdv, dpw_p2] at this
    exact this
  have qv := g1.vw
  have f1 := g1.fr
  generalize Dg.digs (val l) = d at qv k1 DL hdv hlt0
  clear g1
  obtain ⟨A, c, rfl, hc, hr⟩ := qv
  have e16 : (16 : Int) * (d.length : Int) = ((16 * d.length : Nat) : Int) := by omega
  simp (disch := omega) only [EO, ↓EP, EQ, EM, ↓reduceIte, Int.reduceAdd, Int.reduceEq, Int.reduceLE, Int.reduceLT, Int.reduceMul, Int.reduceNeg, Int.reducePow, Int.reduceSub, Int.reduceToNat, Nat.reduceAdd, Nat.reduceEqDiff, Nat.reduceLT, Nat.reduceLeDiff, Nat.reduceMul, reduceCtorEq, e16]
  refine loop_inv (fun t ρ w' => w' = w1 ∧ ρ 4 = .int .i64 ((t : Nat) : Int) ∧ t ≤ 16 * d.length ∧ val l < 2 ^ t) (16 * d.length) ⟨rfl, by simp (disch := omega) only [EO, ↓EP, EQ, EM, ↓reduceIte, Int.reduceAdd, Int.reduceEq, Int.reduceLE, Int.reduceLT, Int.reduceMul, Int.reduceNeg, Int.reducePow, Int.reduceSub, Int.reduceToNat, Nat.reduceAdd, Nat.reduceEqDiff, Nat.reduceLT, Nat.reduceLeDiff, Nat.reduceMul, reduceCtorEq, e16], Nat.le_refl _, hlt0⟩ ?_
  rintro t ρ w' hf ⟨rfl, h4, ht, hlt⟩ N hN
  have q3 : ρ 3 = .slice A d.length c := by rw [hf 3 rfl]; simp (disch := omega) only [EO, ↓EP, EQ, EM, ↓reduceIte, Int.reduceAdd, Int.reduceEq, Int.reduceLE, Int.reduceLT, Int.reduceMul, Int.reduceNeg, Int.reducePow, Int.reduceSub, Int.reduceToNat, Nat.reduceAdd, Nat.reduceEqDiff, Nat.reduceLT, Nat.reduceLeDiff, Nat.reduceMul, reduceCtorEq]
  clear hf
  cases t with
  | zero =>
    have e0 : val l = 0 := by rw [Int.pow_zero] at hlt; omega
    simp (disch := omega) only [EO, ↓EP, EQ, EM, ↓reduceIte, Int.reduceAdd, Int.reduceEq, Int.reduceLE, Int.reduceLT, Int.reduceMul, Int.reduceNeg, Int.reducePow, Int.reduceSub, Int.reduceToNat, Nat.reduceAdd, Nat.reduceEqDiff, Nat.reduceLT, Nat.reduceLeDiff, Nat.reduceMul, reduceCtorEq, h4, q3, Int.natCast_zero]
    have := hK w' f1
    rw [e0, bl_zero] at this
    exact this
  | succ k =>
    obtain ⟨p, rfl, _, hp⟩ := hr.get (by rw [nums_length]; omega)
    have cp := hp.numN (j := k / 16) (by omega)
    have bx := DL.at (k / 16 : Nat)
    have e1 : ((k + 1 : Nat) : Int) - 1 = (k : Int) := by omega
    have ei : ((k : Int) / 16).toNat = k / 16 := by omega
    have em : min ((k : Int) % 16).toNat 64 = k % 16 := by omega
    have hp2 : (0 : Int) < 2 ^ (k % 16) := p2_pos _
    have hpk : (0 : Int) < 2 ^ k := p2_pos _
    have hs0 := Int.ediv_nonneg bx.1 (show (0 : Int) ≤ 2 ^ (k % 16) by omega)
    have hs1 := Int.ediv_le_self (2 ^ (k % 16)) bx.1
    have ha1 := and1 hs0 (by omega)
    have hb := digit_bits DL (k / 16) (k % 16) 1 (by omega)
    have h21 : (2 : Int) ^ 1 = 2 := rfl
    rw [show 16 * (k / 16) + k % 16 = k by omega, hdv, h21] at hb
    have hq0 := Int.ediv_nonneg b1 (show (0 : Int) ≤ 2 ^ k by omega)
    have hq1 : val l / 2 ^ k < 2 := Int.ediv_lt_of_lt_mul hpk (by rw [Int.pow_succ] at hlt; omega)
    have hdm := Int.mul_ediv_add_emod (val l) (2 ^ k)
    have hm0 := Int.emod_nonneg (val l) (show (2 : Int) ^ k ≠ 0 by omega)
    have hm1 := Int.emod_lt_of_pos (val l) hpk
    rw [hb] at ha1
    by_cases h0 : val l / 2 ^ k % 2 = 0
    · have hz : val l / 2 ^ k = 0 := by omega
      rw [hz, Int.mul_zero] at hdm
      simp (disch := omega) only [wu64, wu32, wu8, fdiv_nn, EO, ↓EP, EQ, EM, ↓reduceIte, Int.reduceAdd, Int.reduceEq, Int.reduceLE, Int.reduceLT, Int.reduceMul, Int.reduceNeg, Int.reducePow, Int.reduceSub, Int.reduceToNat, Nat.reduceAdd, Nat.reduceEqDiff, Nat.reduceLT, Nat.reduceLeDiff, Nat.reduceMul, reduceCtorEq, h4, q3, e1, ei, em, cp, ha1, h0]
      exact hN k _ _ (by omega) ⟨rfl, by simp (disch := omega) only [EO, ↓EP, EQ, EM, ↓reduceIte, Int.reduceAdd, Int.reduceEq, Int.reduceLE, Int.reduceLT, Int.reduceMul, Int.reduceNeg, Int.reducePow, Int.reduceSub, Int.reduceToNat, Nat.reduceAdd, Nat.reduceEqDiff, Nat.reduceLT, Nat.reduceLeDiff, Nat.reduceMul, reduceCtorEq, h4, e1], by omega, by omega⟩
    · have hz : val l / 2 ^ k = 1 := by omega
      rw [hz, Int.mul_one] at hdm
      have hf0 : (val l / 2 ^ k % 2 = 0) = False := eq_false h0
      simp (disch := omega) only [wu64, wu32, wu8, fdiv_nn, EO, ↓EP, EQ, EM, ↓reduceIte, Int.reduceAdd, Int.reduceEq, Int.reduceLE, Int.reduceLT, Int.reduceMul, Int.reduceNeg, Int.reducePow, Int.reduceSub, Int.reduceToNat, Nat.reduceAdd, Nat.reduceEqDiff, Nat.reduceLT, Nat.reduceLeDiff, Nat.reduceMul, reduceCtorEq, h4, q3, e1, ei, em, cp, ha1, hf0]
      have := hK w' f1
      rw [bl_of (k := k) (by omega) hlt] at this
      exact this
end Go.Proofs.YtcgplgpdcfocpaaDoor.Spec
end
