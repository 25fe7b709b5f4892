/- RsaSalted: what is used, in one text. -/
import Derived.StillTail
import Derived.Deep.Quiet
import Derived.Laws.BytesArg
import Derived.WalkKit
import Derived.KernelRfl
import Derived.Deep.Draws
import Derived.Laws.Slices
import Derived.Laws.MakeOwn
import Derived.Laws.Append
import Derived.Laws.AppendOwn
import Derived.Laws.IdiomCopy
set_option linter.unusedVariables false
set_option linter.unusedSimpArgs false
set_option maxRecDepth 100000
open Int renaming reduceAdd → Za, reduceEq → Zb, reduceLE → Zc, reduceLT → Zd, reduceMul → Ze, reduceNeg → Zf, reducePow → Zg, reduceSub → Zj, reduceToNat → Zk
open Nat renaming reduceAdd → Zl, reduceEqDiff → Zm, reduceLT → Zn, reduceLeDiff → Zp, reduceMul → Zq
section
namespace Go.Proofs.YtcgplgpdcfocpaaGreatDoor.Eng
open Go
section
variable {P : Program} {ops : Array Oper} {md : Region.Mode} {C : World → Prop}
def wpAnyQL (P : Program) (md : Region.Mode) (ops : Array Oper) (C : World → Prop) (n : Nat) (L : Array Bool → Act → Prop) : Nat → Array Bool → Act → Prop
 | 0, listed, a => L listed a
 | f + 1, listed, a =>
  Region.ready md ops listed ≠ [] ∧ ∀ i ∈ Region.ready md ops listed, i < n ∧ qOp P ops C i (wpAnyQL P md ops C n L f (listed.setIfInBounds i true)) a
theorem wpAny_of_qhead {n g : Nat} {L : Array Bool → Act → Prop} {Q' : Exit → Act → World → Prop} (hL : ∀ listed a w, C w → L listed a → wpAny P md ops Q' g listed a w) :
  ∀ (f : Nat) (listed : Array Bool) (a : Act) (w : World), C w → wpAnyQL P md ops C n L f listed a → wpAny P md ops Q' (f + g) listed a w
 | 0, listed, a, w, hw, h => by rw[Nat.zero_add]; exact hL _ _ _ hw h
 | f + 1, listed, a, w, hw, h => by
  rw[show f + 1 + g = (f + g) + 1 by omega]
  exact ⟨fun h0 => absurd h0 h.1, fun i hi => wpOp_of_qOp hw (fun a' w' hw' h' => wpAny_of_qhead hL f _ a' w' hw' h') (h.2 i hi).2⟩
theorem wpAnyQL_first {n i : Nat} {oi : Oper} {v : Value} {L : Array Bool → Act → Prop} (hi : ops[i]? = some oi) (hsel : ∀ (j : Nat) (o : Oper) cs b, ops[j]? = some o → o.op ≠ .select cs b)
  (hs : Region.sinkB md ops n = true) (hc : Region.chainB md ops n = true) (hn : n < ops.size) (hin : i < n)
  (hdone : ∀ listed a, L listed a → ∀ j ∈ Region.ready md ops listed, n ≤ j) :
  ∀ (f : Nat) (listed : Array Bool) (a : Act), HeadInv md ops n listed →
   (∀ j oj, ops[j]? = some oj → j ≠ i → listed.getD j true = false → (∀ e ∈ oj.after, Region.binds md e = true → e.on ≠ i) → oi.apart ops oj = true) →
   i ∈ Region.ready md ops listed → YieldsIn P ops C oi v a →
   wpAnyQL P md ops C n L f (listed.setIfInBounds i true) (a.put oi.dst v) → wpAnyQL P md ops C n L (f + 1) listed a := by
 intro f
 induction f with
 | zero =>
  intro listed a inv _ hr hy H
  have hun := (mem_ready.1 hr).1
  refine ⟨fun h => (by rw[h] at hr; cases hr), fun j hj => ?_⟩
  have hjn : j < n := by
   rcases Nat.lt_or_ge j n with h | h
   ·exact h
   ·exact absurd hj (tail_waits hs hc hn inv _ i rfl hin hun j h)
  refine ⟨hjn, ?_⟩
  by_cases hji : j = i
  ·subst hji; exact hy.qOp hi H
  ·have := hdone _ _ H j (ready_mono hj hji)
   omega
 | succ f ih =>
  intro listed a inv hfree hr hy H
  have hun := (mem_ready.1 hr).1
  refine ⟨fun h => (by rw[h] at hr; cases hr), fun j hj => ?_⟩
  have hjn : j < n := by
   rcases Nat.lt_or_ge j n with h | h
   ·exact h
   ·exact absurd hj (tail_waits hs hc hn inv _ i rfl hin hun j h)
  refine ⟨hjn, ?_⟩
  by_cases hji : j = i
  ·subst hji; exact hy.qOp hi H
  ·have h1 := (H.2 j (ready_mono hj hji)).2
   obtain ⟨hjun, oj, hoj, hall⟩ := mem_ready.1 hj
   have hnot : ∀ e ∈ oj.after, Region.binds md e = true → e.on ≠ i := fun e he hb heq => by
    have h1 := hall e he hb
    rw[heq,getD_both hun] at h1
    cases h1
   have h2 := qOp_put hoj (hfree j oj hoj hji hjun hnot) (fun cs b => hsel i oi cs b hi) (fun cs b => hsel j oj cs b hoj) hy h1
   have hfree' : ∀ k ok, ops[k]? = some ok → k ≠ i → (listed.setIfInBounds j true).getD k true = false →
     (∀ e ∈ ok.after, Region.binds md e = true → e.on ≠ i) → oi.apart ops ok = true := fun k ok hk hki hun hno => by
    refine hfree k ok hk hki ?_ hno
    by_cases hjk : j = k
    ·subst hjk; exact hjun
    ·rw[getD_set_ne true hjk] at hun; exact hun
   refine qOp_mono (fun a' h3 => ih (listed.setIfInBounds j true) a' (inv.set hj hjn) hfree' (ready_mono hr (Ne.symm hji)) h3.1 ?_) h2
   rw[Array.setIfInBounds_comm _ _ hji]
   exact h3.2
theorem wpAnyQL_lex {n g : Nat} {Lq : Act → Prop} (hsel : Region.noSelect ops = true) (hs : Region.sinkB md ops n = true) (hc : Region.chainB md ops n = true) (hn : n < ops.size) :
  ∀ (l : List Oper) (k : Nat) (listed : Array Bool) (a : Act), (∀ j, j < l.length → l[j]? = ops[k + j]?) → k + l.length = n → HeadInv md ops n listed →
   Region.lexHead md ops g l.length k listed = true → wpQuiet P ops C Lq l a → wpAnyQL P md ops C n (fun listed a => Region.seqB md ops g n listed = true ∧ Lq a) l.length listed a
 | [], k, listed, a, _, hk, _, hB, h => by
  have hk : k = n := by simpa using hk
  subst hk
  exact ⟨by simpa [Region.lexHead] using hB, h⟩
 | o :: l, k, listed, a, hl, hk, inv, hB, h => by
  have h0 : ops[k]? = some o := by simpa using (hl 0 (by simp)).symm
  have hkn : k < n := by simp only[List.length_cons] at hk; omega
  simp only[List.length_cons,Region.lexHead,Bool.and_eq_true] at hB
  obtain ⟨⟨hr, hf⟩, hB'⟩ := hB
  have hr' : k ∈ Region.ready md ops listed := by simpa using hr
  have hst : qOp P ops C k (wpQuiet P ops C Lq l) a := by unfold qOp; simp only[h0]; exact h
  obtain ⟨v, hy, hK⟩ := yieldsIn_of_qOp h0 hst
  exact wpAnyQL_first h0 (Region.noSelect_spec hsel) hs hc hn hkn (fun listed' a' hL => seqB_ready hL.1) l.length listed a inv (Region.free_spec h0 hf) hr' hy
   (wpAnyQL_lex hsel hs hc hn l (k + 1) _ _ (fun j hj => by have := hl (j + 1) (by simp; omega); simpa [Nat.add_assoc, Nat.add_comm 1 j] using this) (by simp only[List.length_cons] at hk; omega) (inv.set hr' hkn) hB' hK)
theorem wp_region_quiet_tail {id : Nat} {Q : Exit → Act → World → Prop} {a : Act} {w : World} {l : List Oper} (n : Nat) (hm : P.follows .mixedOrders = true) (hB : Region.lexTailB .any l.toArray n = true)
  (hC : C { w with drawn := w.drawn + 1 })
  (h : wpQuiet P l.toArray C (fun a' => ∀ w', C w' → wpList P l.toArray Q (l.drop n) a' w') (l.take n) a) : (Code.region id l.toArray true).wp P Q a w := by
 simp only[Region.lexTailB,Bool.and_eq_true,decide_eq_true_eq] at hB
 obtain ⟨⟨⟨⟨hsel, hn⟩, hs⟩, hc⟩, hlex⟩ := hB
 have hn' : n < l.length := by simpa using hn
 have htl : (l.take n).length = n := by simp; omega
 have hdl : (l.drop n).length = l.toArray.size - n := by simp
 have inv0 : HeadInv .any l.toArray n (Array.replicate l.toArray.size false) :=
  ⟨by simp, fun j oj _ hl => (by rw[getD_replicate_false] at hl; cases hl), fun t _ ht => getD_in (by simpa using ht) (getD_replicate_false _ _)⟩
 have H := wpAnyQL_lex (C := C) (md := .any) (g := l.toArray.size - n) hsel hs hc hn (l.take n) 0 _ a (fun j hj => by
  have hj' : j < n := by rw[htl] at hj; exact hj
  simp[hj']) (by simpa using htl) inv0 (by rw[htl]; exact hlex) h
 refine wp_region_any hm ?_
 have := wpAny_of_qhead (C := C) (Q' := Q) (g := l.toArray.size - n) (fun listed a' w' hw' hL => by
  have := wpAny_of_seq (md := .any) (Q' := Q) (l.drop n) n listed a' w' (fun j => by simp[List.getElem?_drop]) (by rw[hdl]; exact hL.1) (hL.2 w' hw')
  rwa [hdl] at this) _ _ _ _ hC H
 rw[htl, show n + (l.toArray.size - n) = l.toArray.size by omega] at this
 exact this
end
end Go.Proofs.YtcgplgpdcfocpaaGreatDoor.Eng
end
section
namespace Go.Proofs.YtcgplgpdcfocpaaGreatDoor.Eng
open Go
section
variable {P : Program} {ops : Array Oper} {md : Region.Mode}
def Near (w : World) : World → Prop := fun w' => ∃ m, w' = w.drewN m
def mOp (P : Program) (ops : Array Oper) (i : Nat) (K : Act → World → Prop) (a : Act) (w : World) : Prop :=
 match ops[i]? with
 | none => False
 | some o => if Region.wanted o (yielded ops a.tmps) then
   (match (execOp a.eval o).run P w with
    | .ok (.value v) w' => K (a.put o.dst v) w'
    | .ok .skip w' => K (a.put o.dst undef) w'
    | .ok (.enter f args) w' => Calls P f args w' fun e w'' => ∃ v, e = .returned v ∧ K (a.put o.dst v) w''
    | _ => False)
  else K (a.put o.dst undef) w
theorem mOp_mono {i : Nat} {K K' : Act → World → Prop} {a : Act} {w : World} (h : ∀ a w, K a w → K' a w) (hh : mOp P ops i K a w) : mOp P ops i K' a w := by
 unfold mOp at *
 cases ho : ops[i]? with
 | none => simp only[ho] at hh
 | some o =>
  simp only[ho] at hh ⊢
  split
  ·rename_i hw
   rw[if_pos hw] at hh
   generalize (execOp a.eval o).run P w = r at *
   cases r with
   | halt x w' => exact hh
   | ok x w' =>
    cases x <;> first | exact hh | skip
    case value v => exact h _ _ hh
    case skip => exact h _ _ hh
    case enter f args => exact hh.mono fun e w'' ⟨v, he, hv⟩ => ⟨v, he, h _ _ hv⟩
  ·rename_i hw
   rw[if_neg hw] at hh
   exact h _ _ hh
theorem wpOp_of_mOp {Q : Exit → Act → World → Prop} {i : Nat} {K K' : Act → World → Prop} {a : Act} {w : World} (h : ∀ a w, K a w → K' a w) (hh : mOp P ops i K a w) : wpOp P ops Q i K' a w := by
 unfold mOp at hh
 unfold wpOp
 cases ho : ops[i]? with
 | none => simp only[ho] at hh
 | some o =>
  simp only[ho] at hh ⊢
  split
  ·rename_i hw
   rw[if_pos hw] at hh
   refine .inl ?_
   unfold Oper.wp
   generalize (execOp a.eval o).run P w = r at *
   cases r with
   | halt x w' => exact hh.elim
   | ok x w' =>
    cases x <;> first | exact hh.elim | skip
    case value v => exact h _ _ hh
    case skip => exact h _ _ hh
    case enter f args =>
     rw[Oper.upon_enter]
     exact hh.mono fun e w'' ⟨v, he, hv⟩ => by subst he; exact h _ _ hv
  ·rename_i hw
   rw[if_neg hw] at hh
   exact h _ _ hh
def Pure (P : Program) (ops : Array Oper) (o : Oper) (v : Value) (a : Act) : Prop :=
 (Region.wanted o (yielded ops a.tmps) = true ∧ ∀ w, (execOp a.eval o).run P w = .ok (.value v) w) ∨ (Region.wanted o (yielded ops a.tmps) = false ∧ v = undef)
theorem Pure.of_same {o : Oper} {v : Value} {a a' : Act} (hy : Pure P ops o v a) (he : execOp a'.eval o = execOp a.eval o)
  (hw : Region.wanted o (yielded ops a'.tmps) = Region.wanted o (yielded ops a.tmps)) : Pure P ops o v a' := by
 unfold Pure at *
 rw[he,hw]
 exact hy
theorem Pure.yields {o : Oper} {v : Value} {a : Act} (hy : Pure P ops o v a) (C : World → Prop) : YieldsIn P ops C o v a := by
 rcases hy with ⟨hw, h⟩ | h
 ·refine .inl ⟨hw, fun w' _ => ?_⟩
  unfold Oper.quietAt
  rw[h w']
  exact ⟨rfl, rfl⟩
 ·exact .inr h
theorem mOp_put {j : Nat} {oi oj : Oper} {v : Value} (hj : ops[j]? = some oj) (hap : oi.apart ops oj = true)
  (hsi : ∀ cs b, oi.op ≠ .select cs b) (hsj : ∀ cs b, oj.op ≠ .select cs b) {K : Act → World → Prop} {a : Act} {w : World}
  (hy : Pure P ops oi v a) (h : mOp P ops j K (a.put oi.dst v) w) :
  mOp P ops j (fun a' w' => Pure P ops oi v a' ∧ K (a'.put oi.dst v) w') a w := by
 obtain ⟨h1, h2, h3⟩ := Oper.apart_spec hap
 have keep : ∀ (a : Act), Pure P ops oi v a → ∀ u, Pure P ops oi v (a.put oj.dst u) := fun a hy u =>
  hy.of_same (execOp_put oi hsi a oj.dst u h3) (wanted_put oi a oj.dst u h3)
 unfold mOp at *
 simp only[hj] at *
 rw[wanted_put oj a oi.dst v h1,execOp_put oj hsj a oi.dst v h1] at h
 split
 ·rename_i hw
  rw[if_pos hw] at h
  generalize (execOp a.eval oj).run P w = r at *
  cases r with
  | halt x w' => exact h
  | ok x w' =>
   cases x <;> first | exact h | skip
   case value u => exact ⟨keep a hy u, by rw[← Act.put_comm a v u h2]; exact h⟩
   case skip => exact ⟨keep a hy _, by rw[← Act.put_comm a v undef h2]; exact h⟩
   case enter f args => exact h.mono fun e w'' ⟨u, he, hu⟩ => ⟨u, he, keep a hy u, by rw[← Act.put_comm a v u h2]; exact hu⟩
 ·rename_i hw
  rw[if_neg hw] at h
  exact ⟨keep a hy _, by rw[← Act.put_comm a v undef h2]; exact h⟩
theorem qOp_putP {j : Nat} {oi oj : Oper} {v : Value} (hj : ops[j]? = some oj) (hap : oi.apart ops oj = true)
  (hsi : ∀ cs b, oi.op ≠ .select cs b) (hsj : ∀ cs b, oj.op ≠ .select cs b) {C : World → Prop} {K : Act → Prop} {a : Act}
  (hy : Pure P ops oi v a) (h : qOp P ops C j K (a.put oi.dst v)) :
  qOp P ops C j (fun a' => Pure P ops oi v a' ∧ K (a'.put oi.dst v)) a := by
 obtain ⟨h1, h2, h3⟩ := Oper.apart_spec hap
 have keep : ∀ (a : Act), Pure P ops oi v a → ∀ u, Pure P ops oi v (a.put oj.dst u) := fun a hy u =>
  hy.of_same (execOp_put oi hsi a oj.dst u h3) (wanted_put oi a oj.dst u h3)
 unfold qOp at *
 simp only[hj] at *
 rw[wanted_put oj a oi.dst v h1] at h
 split
 ·rename_i hw
  simp only[hw,if_true] at h
  obtain ⟨u, hu, hn⟩ := h
  refine ⟨u, fun w hw' => ?_, keep a hy u, by rw[← Act.put_comm a v u h2]; exact hn⟩
  have := hu w hw'
  unfold Oper.quietAt at *
  rwa [execOp_put oj hsj a oi.dst v h1] at this
 ·rename_i hw
  simp only[hw] at h
  exact ⟨keep a hy _, by rw[← Act.put_comm a v undef h2]; exact h⟩
def wpM (P : Program) (md : Region.Mode) (ops : Array Oper) (D : List Nat) (Q : Act → World → Prop) : Nat → Array Bool → Act → World → Prop
 | 0, listed, a, w => Region.ready md ops listed = [] ∧ ∀ w', Near w w' → Q a w'
 | f + 1, listed, a, w =>
  (Region.ready md ops listed = [] → ∀ w', Near w w' → Q a w') ∧
  ∀ i ∈ Region.ready md ops listed, if i ∈ D then ∀ w', Near w w' → mOp P ops i (wpM P md ops D Q f (listed.setIfInBounds i true)) a w'
   else qOp P ops (Near w) i (fun a' => wpM P md ops D Q f (listed.setIfInBounds i true) a' w) a
theorem wpM_any {D : List Nat} {Q : Act → World → Prop} {Q' : Exit → Act → World → Prop} (hQ : ∀ a w, Q a w → Q' .normal a w) : ∀ (f : Nat) (listed : Array Bool) (a : Act) (w : World), wpM P md ops D Q f listed a w → ∀ w', Near w w' → wpAny P md ops Q' f listed a w'
 | 0, _, _, _, h, w', hw => ⟨h.1, hQ _ _ (h.2 w' hw)⟩
 | f + 1, listed, a, w, h, w', hw => by
  refine ⟨fun h0 => hQ _ _ (h.1 h0 w' hw), fun i hi => ?_⟩
  have h2 := h.2 i hi
  by_cases hD : i ∈ D
  ·rw[if_pos hD] at h2
   exact wpOp_of_mOp (fun a' w'' h3 => wpM_any hQ f _ a' w'' h3 w'' ⟨0, rfl⟩) (h2 w' hw)
  ·rw[if_neg hD] at h2
   refine wpOp_of_qOp hw (fun a' w'' hw'' h3 => wpM_any hQ f _ a' w h3 w'' hw'') h2
def Closed (md : Region.Mode) (ops : Array Oper) (listed : Array Bool) : Prop :=
 ∀ j oj, ops[j]? = some oj → listed.getD j false = true → ∀ e ∈ oj.after, Region.binds md e = true → listed.getD e.on false = true
theorem Closed.start (n : Nat) : Closed md ops (Array.replicate n false) := fun j oj _ hl => by rw[getD_replicate_false] at hl; cases hl
theorem Closed.set {i : Nat} {listed : Array Bool} (hc : Closed md ops listed) (hi : i ∈ Region.ready md ops listed) : Closed md ops (listed.setIfInBounds i true) := by
 obtain ⟨_, oi, hoi, hall⟩ := mem_ready.1 hi
 intro j oj hj hl e he hb
 by_cases hij : i = j
 ·subst hij
  have : oj = oi := Option.some.inj (hj.symm.trans hoi)
  subst this
  exact getD_set_true (hall e he hb)
 ·rw[getD_set_ne false hij] at hl
  exact getD_set_true (hc j oj hj hl e he hb)
def reach (md : Region.Mode) (ops : Array Oper) (i : Nat) : Nat → Nat → Bool
 | 0, _ => false
 | f + 1, d => match ops[d]? with
  | none => false
  | some o => o.after.any fun e => Region.binds md e && (e.on == i || (decide (e.on < d) && reach md ops i f e.on))
theorem reach_listed {i : Nat} {listed : Array Bool} (hc : Closed md ops listed) : ∀ (f d : Nat), reach md ops i f d = true → (∀ o, ops[d]? = some o → ∀ e ∈ o.after, Region.binds md e = true → listed.getD e.on false = true) → listed.getD i false = true
 | 0, _, h, _ => by cases h
 | f + 1, d, h, hd => by
  unfold reach at h
  split at h
  ·cases h
  ·rename_i o ho
   obtain ⟨e, he, hb⟩ := Array.any_eq_true'.1 h
   simp only[Bool.and_eq_true,Bool.or_eq_true,beq_iff_eq,decide_eq_true_eq] at hb
   have h1 := hd o ho e he hb.1
   rcases hb.2 with h2 | ⟨_, h2⟩
   ·rw[← h2]; exact h1
   ·exact reach_listed hc f e.on h2 (fun o' ho' e' he' hb' => hc e.on o' ho' h1 e' he' hb')
theorem reach_not_ready {i d f : Nat} {listed : Array Bool} (hc : Closed md ops listed) (hr : reach md ops i f d = true) (hun : listed.getD i true = false) : d ∉ Region.ready md ops listed := by
 intro h
 obtain ⟨_, o, ho, hall⟩ := mem_ready.1 h
 have := reach_listed hc f d hr (fun o' ho' e he hb => by
  have : o' = o := Option.some.inj (ho'.symm.trans ho)
  subst this
  exact hall e he hb)
 rw[getD_both hun] at this
 cases this
theorem wpM_quiet {D : List Nat} {Q : Act → World → Prop} {i g : Nat} {oi : Oper} {v : Value} {w : World} (hi : ops[i]? = some oi) (hsel : ∀ (j : Nat) (o : Oper) cs b, ops[j]? = some o → o.op ≠ .select cs b) (hiD : i ∉ D) :
  ∀ (f : Nat) (listed : Array Bool) (a : Act), Closed md ops listed → (∀ d ∈ D, listed.getD d true = true ∨ reach md ops i g d = true) →
   (∀ j oj, ops[j]? = some oj → j ≠ i → listed.getD j true = false → (∀ e ∈ oj.after, Region.binds md e = true → e.on ≠ i) → oi.apart ops oj = true) →
   i ∈ Region.ready md ops listed → YieldsIn P ops (Near w) oi v a →
   wpM P md ops D Q f (listed.setIfInBounds i true) (a.put oi.dst v) w → wpM P md ops D Q (f + 1) listed a w := by
 intro f
 induction f with
 | zero =>
  intro listed a hc hD hfree hr hy H
  refine ⟨fun h => (by rw[h] at hr; cases hr), fun j hj => ?_⟩
  by_cases hji : j = i
  ·subst hji; rw[if_neg hiD]; exact hy.qOp hi H
  ·have := ready_mono hj hji
   rw[H.1] at this
   cases this
 | succ f ih =>
  intro listed a hc hD hfree hr hy H
  have hun := (mem_ready.1 hr).1
  refine ⟨fun h => (by rw[h] at hr; cases hr), fun j hj => ?_⟩
  have hjD : j ∉ D := fun hjD => by
   rcases hD j hjD with h | h
   ·rw[(mem_ready.1 hj).1] at h; cases h
   ·exact reach_not_ready hc h hun hj
  rw[if_neg hjD]
  by_cases hji : j = i
  ·subst hji; exact hy.qOp hi H
  ·have h1 := H.2 j (ready_mono hj hji)
   rw[if_neg hjD] at h1
   obtain ⟨hjun, oj, hoj, hall⟩ := mem_ready.1 hj
   have hnot : ∀ e ∈ oj.after, Region.binds md e = true → e.on ≠ i := fun e he hb heq => by
    have h1 := hall e he hb
    rw[heq,getD_both hun] at h1
    cases h1
   have h2 := qOp_put hoj (hfree j oj hoj hji hjun hnot) (fun cs b => hsel i oi cs b hi) (fun cs b => hsel j oj cs b hoj) hy h1
   have hfree' : ∀ k ok, ops[k]? = some ok → k ≠ i → (listed.setIfInBounds j true).getD k true = false →
     (∀ e ∈ ok.after, Region.binds md e = true → e.on ≠ i) → oi.apart ops ok = true := fun k ok hk hki hun hno => by
    refine hfree k ok hk hki ?_ hno
    by_cases hjk : j = k
    ·subst hjk; exact hjun
    ·rw[getD_set_ne true hjk] at hun; exact hun
   refine qOp_mono (fun a' h3 => ih (listed.setIfInBounds j true) a' (hc.set hj) (fun d hd => ?_) hfree' (ready_mono hr (Ne.symm hji)) h3.1 ?_) h2
   ·rcases hD d hd with h | h
    ·refine .inl ?_
     have hjd : j ≠ d := fun e => hjD (e ▸ hd)
     rw[getD_set_ne true hjd]; exact h
    ·exact .inr h
   ·rw[Array.setIfInBounds_comm _ _ hji]
    exact h3.2
theorem wpM_pure {D : List Nat} {Q : Act → World → Prop} {i : Nat} {oi : Oper} {v : Value} (hi : ops[i]? = some oi) (hsel : ∀ (j : Nat) (o : Oper) cs b, ops[j]? = some o → o.op ≠ .select cs b) (hiD : i ∉ D) :
  ∀ (f : Nat) (listed : Array Bool) (a : Act) (w : World),
   (∀ j oj, ops[j]? = some oj → j ≠ i → listed.getD j true = false → (∀ e ∈ oj.after, Region.binds md e = true → e.on ≠ i) → oi.apart ops oj = true) →
   i ∈ Region.ready md ops listed → Pure P ops oi v a →
   wpM P md ops D Q f (listed.setIfInBounds i true) (a.put oi.dst v) w → wpM P md ops D Q (f + 1) listed a w := by
 intro f
 induction f with
 | zero =>
  intro listed a w hfree hr hy H
  refine ⟨fun h => (by rw[h] at hr; cases hr), fun j hj => ?_⟩
  by_cases hji : j = i
  ·subst hji; rw[if_neg hiD]; exact (hy.yields _).qOp hi H
  ·have := ready_mono hj hji
   rw[H.1] at this
   cases this
 | succ f ih =>
  intro listed a w hfree hr hy H
  have hun := (mem_ready.1 hr).1
  refine ⟨fun h => (by rw[h] at hr; cases hr), fun j hj => ?_⟩
  by_cases hji : j = i
  ·subst hji; rw[if_neg hiD]; exact (hy.yields _).qOp hi H
  ·have h1 := H.2 j (ready_mono hj hji)
   obtain ⟨hjun, oj, hoj, hall⟩ := mem_ready.1 hj
   have hnot : ∀ e ∈ oj.after, Region.binds md e = true → e.on ≠ i := fun e he hb heq => by
    have h1 := hall e he hb
    rw[heq,getD_both hun] at h1
    cases h1
   have hap := hfree j oj hoj hji hjun hnot
   have hfree' : ∀ k ok, ops[k]? = some ok → k ≠ i → (listed.setIfInBounds j true).getD k true = false →
     (∀ e ∈ ok.after, Region.binds md e = true → e.on ≠ i) → oi.apart ops ok = true := fun k ok hk hki hun hno => by
    refine hfree k ok hk hki ?_ hno
    by_cases hjk : j = k
    ·subst hjk; exact hjun
    ·rw[getD_set_ne true hjk] at hun; exact hun
   have step : ∀ (a' : Act) (w' : World), Pure P ops oi v a' → wpM P md ops D Q f ((listed.setIfInBounds i true).setIfInBounds j true) (a'.put oi.dst v) w' → wpM P md ops D Q (f + 1) (listed.setIfInBounds j true) a' w' := fun a' w' hp h3 =>
    ih (listed.setIfInBounds j true) a' w' hfree' (ready_mono hr (Ne.symm hji)) hp (by rw[Array.setIfInBounds_comm _ _ hji]; exact h3)
   by_cases hjD : j ∈ D
   ·rw[if_pos hjD] at h1 ⊢
    intro w' hw'
    exact mOp_mono (fun a' w'' h3 => step a' w'' h3.1 h3.2) (mOp_put hoj hap (fun cs b => hsel i oi cs b hi) (fun cs b => hsel j oj cs b hoj) hy (h1 w' hw'))
   ·rw[if_neg hjD] at h1 ⊢
    exact qOp_mono (fun a' h3 => step a' w h3.1 h3.2) (qOp_putP hoj hap (fun cs b => hsel i oi cs b hi) (fun cs b => hsel j oj cs b hoj) hy h1)
end
end Go.Proofs.YtcgplgpdcfocpaaGreatDoor.Eng
end
section
namespace Go.Proofs.YtcgplgpdcfocpaaGreatDoor.Eng
open Go
section
variable {P : Program} {ops : Array Oper} {md : Region.Mode}
theorem mOp_putZ {j : Nat} {oi oj : Oper} {v : Value} {Z : Act → Prop} (hj : ops[j]? = some oj) (hap : oi.apart ops oj = true)
  (hsj : ∀ cs b, oj.op ≠ .select cs b) (keep : ∀ a, Z a → ∀ u, Z (a.put oj.dst u)) {K : Act → World → Prop} {a : Act} {w : World}
  (hy : Z a) (h : mOp P ops j K (a.put oi.dst v) w) : mOp P ops j (fun a' w' => Z a' ∧ K (a'.put oi.dst v) w') a w := by
 obtain ⟨h1, h2, h3⟩ := Oper.apart_spec hap
 unfold mOp at *
 simp only[hj] at *
 rw[wanted_put oj a oi.dst v h1,execOp_put oj hsj a oi.dst v h1] at h
 split
 ·rename_i hw
  rw[if_pos hw] at h
  generalize (execOp a.eval oj).run P w = r at *
  cases r with
  | halt x w' => exact h
  | ok x w' =>
   cases x <;> first | exact h | skip
   case value u => exact ⟨keep a hy u, by rw[← Act.put_comm a v u h2]; exact h⟩
   case skip => exact ⟨keep a hy _, by rw[← Act.put_comm a v undef h2]; exact h⟩
   case enter f args => exact h.mono fun e w'' ⟨u, he, hu⟩ => ⟨u, he, keep a hy u, by rw[← Act.put_comm a v u h2]; exact hu⟩
 ·rename_i hw
  rw[if_neg hw] at h
  exact ⟨keep a hy _, by rw[← Act.put_comm a v undef h2]; exact h⟩
theorem qOp_putZ {j : Nat} {oi oj : Oper} {v : Value} {Z : Act → Prop} (hj : ops[j]? = some oj) (hap : oi.apart ops oj = true)
  (hsj : ∀ cs b, oj.op ≠ .select cs b) (keep : ∀ a, Z a → ∀ u, Z (a.put oj.dst u)) {C : World → Prop} {K : Act → Prop} {a : Act}
  (hy : Z a) (h : qOp P ops C j K (a.put oi.dst v)) : qOp P ops C j (fun a' => Z a' ∧ K (a'.put oi.dst v)) a := by
 obtain ⟨h1, h2, h3⟩ := Oper.apart_spec hap
 unfold qOp at *
 simp only[hj] at *
 rw[wanted_put oj a oi.dst v h1] at h
 split
 ·rename_i hw
  simp only[hw,if_true] at h
  obtain ⟨u, hu, hn⟩ := h
  refine ⟨u, fun w hw' => ?_, keep a hy u, by rw[← Act.put_comm a v u h2]; exact hn⟩
  have := hu w hw'
  unfold Oper.quietAt at *
  rwa [execOp_put oj hsj a oi.dst v h1] at this
 ·rename_i hw
  simp only[hw] at h
  exact ⟨keep a hy _, by rw[← Act.put_comm a v undef h2]; exact h⟩
def wpC (P : Program) (md : Region.Mode) (ops : Array Oper) (D : List Nat) (C : World → Prop) (Q : Act → World → Prop) : Nat → Array Bool → Act → World → Prop
 | 0, listed, a, w => Region.ready md ops listed = [] ∧ ∀ w', Near w w' → Q a w'
 | f + 1, listed, a, w =>
  (Region.ready md ops listed = [] → ∀ w', Near w w' → Q a w') ∧
  ∀ i ∈ Region.ready md ops listed, if i ∈ D then ∀ w', Near w w' → mOp P ops i (fun a' w'' => C w'' ∧ wpC P md ops D C Q f (listed.setIfInBounds i true) a' w'') a w'
   else qOp P ops (Near w) i (fun a' => wpC P md ops D C Q f (listed.setIfInBounds i true) a' w) a
theorem wpC_any {D : List Nat} {C : World → Prop} {Q : Act → World → Prop} {Q' : Exit → Act → World → Prop} (hQ : ∀ a w, Q a w → Q' .normal a w) : ∀ (f : Nat) (listed : Array Bool) (a : Act) (w : World), wpC P md ops D C Q f listed a w → ∀ w', Near w w' → wpAny P md ops Q' f listed a w'
 | 0, _, _, _, h, w', hw => ⟨h.1, hQ _ _ (h.2 w' hw)⟩
 | f + 1, listed, a, w, h, w', hw => by
  refine ⟨fun h0 => hQ _ _ (h.1 h0 w' hw), fun i hi => ?_⟩
  have h2 := h.2 i hi
  by_cases hD : i ∈ D
  ·rw[if_pos hD] at h2
   exact wpOp_of_mOp (fun a' w'' h3 => wpC_any hQ f _ a' w'' h3.2 w'' ⟨0, rfl⟩) (h2 w' hw)
  ·rw[if_neg hD] at h2
   refine wpOp_of_qOp hw (fun a' w'' hw'' h3 => wpC_any hQ f _ a' w h3 w'' hw'') h2
theorem wpC_quiet {D : List Nat} {C : World → Prop} {Q : Act → World → Prop} {i g : Nat} {oi : Oper} {v : Value} {w : World} (hi : ops[i]? = some oi) (hsel : ∀ (j : Nat) (o : Oper) cs b, ops[j]? = some o → o.op ≠ .select cs b) (hiD : i ∉ D) :
  ∀ (f : Nat) (listed : Array Bool) (a : Act), Closed md ops listed → (∀ d ∈ D, listed.getD d true = true ∨ reach md ops i g d = true) →
   (∀ j oj, ops[j]? = some oj → j ≠ i → listed.getD j true = false → (∀ e ∈ oj.after, Region.binds md e = true → e.on ≠ i) → oi.apart ops oj = true) →
   i ∈ Region.ready md ops listed → YieldsIn P ops (Near w) oi v a →
   wpC P md ops D C Q f (listed.setIfInBounds i true) (a.put oi.dst v) w → wpC P md ops D C Q (f + 1) listed a w := by
 intro f
 induction f with
 | zero =>
  intro listed a hc hD hfree hr hy H
  refine ⟨fun h => (by rw[h] at hr; cases hr), fun j hj => ?_⟩
  by_cases hji : j = i
  ·subst hji; rw[if_neg hiD]; exact hy.qOp hi H
  ·have := ready_mono hj hji
   rw[H.1] at this
   cases this
 | succ f ih =>
  intro listed a hc hD hfree hr hy H
  have hun := (mem_ready.1 hr).1
  refine ⟨fun h => (by rw[h] at hr; cases hr), fun j hj => ?_⟩
  have hjD : j ∉ D := fun hjD => by
   rcases hD j hjD with h | h
   ·rw[(mem_ready.1 hj).1] at h; cases h
   ·exact reach_not_ready hc h hun hj
  rw[if_neg hjD]
  by_cases hji : j = i
  ·subst hji; exact hy.qOp hi H
  ·have h1 := H.2 j (ready_mono hj hji)
   rw[if_neg hjD] at h1
   obtain ⟨hjun, oj, hoj, hall⟩ := mem_ready.1 hj
   have hnot : ∀ e ∈ oj.after, Region.binds md e = true → e.on ≠ i := fun e he hb heq => by
    have h1 := hall e he hb
    rw[heq,getD_both hun] at h1
    cases h1
   have h2 := qOp_put hoj (hfree j oj hoj hji hjun hnot) (fun cs b => hsel i oi cs b hi) (fun cs b => hsel j oj cs b hoj) hy h1
   have hfree' : ∀ k ok, ops[k]? = some ok → k ≠ i → (listed.setIfInBounds j true).getD k true = false →
     (∀ e ∈ ok.after, Region.binds md e = true → e.on ≠ i) → oi.apart ops ok = true := fun k ok hk hki hun hno => by
    refine hfree k ok hk hki ?_ hno
    by_cases hjk : j = k
    ·subst hjk; exact hjun
    ·rw[getD_set_ne true hjk] at hun; exact hun
   refine qOp_mono (fun a' h3 => ih (listed.setIfInBounds j true) a' (hc.set hj) (fun d hd => ?_) hfree' (ready_mono hr (Ne.symm hji)) h3.1 ?_) h2
   ·rcases hD d hd with h | h
    ·refine .inl ?_
     have hjd : j ≠ d := fun e => hjD (e ▸ hd)
     rw[getD_set_ne true hjd]; exact h
    ·exact .inr h
   ·rw[Array.setIfInBounds_comm _ _ hji]
    exact h3.2
theorem wpC_float {D : List Nat} {C Cf : World → Prop} {Q : Act → World → Prop} {i : Nat} {oi : Oper} {v : Value} (hi : ops[i]? = some oi) (hsel : ∀ (j : Nat) (o : Oper) cs b, ops[j]? = some o → o.op ≠ .select cs b) (hiD : i ∉ D) :
  ∀ (f : Nat) (listed : Array Bool) (a : Act) (w : World),
   (∀ j oj, ops[j]? = some oj → j ≠ i → listed.getD j true = false → (∀ e ∈ oj.after, Region.binds md e = true → e.on ≠ i) → oi.apart ops oj = true) →
   i ∈ Region.ready md ops listed → (∀ w', Cf w' → YieldsIn P ops (Near w') oi v a) → Cf w →
   wpC P md ops D (fun w' => Cf w' ∧ C w') Q f (listed.setIfInBounds i true) (a.put oi.dst v) w → wpC P md ops D C Q (f + 1) listed a w := by
 intro f
 induction f with
 | zero =>
  intro listed a w hfree hr hy hC H
  refine ⟨fun h => (by rw[h] at hr; cases hr), fun j hj => ?_⟩
  by_cases hji : j = i
  ·subst hji; rw[if_neg hiD]; exact (hy w hC).qOp hi ⟨H.1, H.2⟩
  ·have := ready_mono hj hji
   rw[H.1] at this
   cases this
 | succ f ih =>
  intro listed a w hfree hr hy hC H
  have hun := (mem_ready.1 hr).1
  refine ⟨fun h => (by rw[h] at hr; cases hr), fun j hj => ?_⟩
  have weak : ∀ (f : Nat) (listed : Array Bool) (a : Act) (w : World), wpC P md ops D (fun w' => Cf w' ∧ C w') Q f listed a w → wpC P md ops D C Q f listed a w := by
   intro f
   induction f with
   | zero => intro listed a w h; exact h
   | succ f ih =>
    intro listed a w h
    refine ⟨h.1, fun k hk => ?_⟩
    have h2 := h.2 k hk
    by_cases hD : k ∈ D
    ·rw[if_pos hD] at h2 ⊢
     exact fun w' hw' => mOp_mono (fun a' w'' h3 => ⟨h3.1.2, ih _ _ _ h3.2⟩) (h2 w' hw')
    ·rw[if_neg hD] at h2 ⊢
     exact qOp_mono (fun a' h3 => ih _ _ _ h3) h2
  by_cases hji : j = i
  ·subst hji; rw[if_neg hiD]; exact (hy w hC).qOp hi (weak _ _ _ _ H)
  ·have h1 := H.2 j (ready_mono hj hji)
   obtain ⟨hjun, oj, hoj, hall⟩ := mem_ready.1 hj
   have hnot : ∀ e ∈ oj.after, Region.binds md e = true → e.on ≠ i := fun e he hb heq => by
    have h1 := hall e he hb
    rw[heq,getD_both hun] at h1
    cases h1
   have hap := hfree j oj hoj hji hjun hnot
   obtain ⟨p1, p2, p3⟩ := Oper.apart_spec hap
   have keep : ∀ (a : Act), (∀ w', Cf w' → YieldsIn P ops (Near w') oi v a) → ∀ u, ∀ w', Cf w' → YieldsIn P ops (Near w') oi v (a.put oj.dst u) := fun a hy u w' hw' =>
    (hy w' hw').of_same (execOp_put oi (fun cs b => hsel i oi cs b hi) a oj.dst u p3) (wanted_put oi a oj.dst u p3)
   have hfree' : ∀ k ok, ops[k]? = some ok → k ≠ i → (listed.setIfInBounds j true).getD k true = false →
     (∀ e ∈ ok.after, Region.binds md e = true → e.on ≠ i) → oi.apart ops ok = true := fun k ok hk hki hun hno => by
    refine hfree k ok hk hki ?_ hno
    by_cases hjk : j = k
    ·subst hjk; exact hjun
    ·rw[getD_set_ne true hjk] at hun; exact hun
   have step : ∀ (a' : Act) (w' : World), (∀ w', Cf w' → YieldsIn P ops (Near w') oi v a') → Cf w' → wpC P md ops D (fun w' => Cf w' ∧ C w') Q f ((listed.setIfInBounds i true).setIfInBounds j true) (a'.put oi.dst v) w' → wpC P md ops D C Q (f + 1) (listed.setIfInBounds j true) a' w' := fun a' w' hp hw' h3 =>
    ih (listed.setIfInBounds j true) a' w' hfree' (ready_mono hr (Ne.symm hji)) hp hw' (by rw[Array.setIfInBounds_comm _ _ hji]; exact h3)
   by_cases hjD : j ∈ D
   ·rw[if_pos hjD] at h1 ⊢
    intro w' hw'
    exact mOp_mono (fun a' w'' h3 => ⟨h3.2.1.2, step a' w'' h3.1 h3.2.1.1 h3.2.2⟩) (mOp_putZ hoj hap (fun cs b => hsel j oj cs b hoj) keep hy (h1 w' hw'))
   ·rw[if_neg hjD] at h1 ⊢
    exact qOp_mono (fun a' h3 => step a' w h3.1 hC h3.2) (qOp_putZ hoj hap (fun cs b => hsel j oj cs b hoj) keep hy h1)
theorem wpC_weak {D : List Nat} {C C' : World → Prop} {Q : Act → World → Prop} (hC : ∀ w, C w → C' w) : ∀ (f : Nat) (listed : Array Bool) (a : Act) (w : World), wpC P md ops D C Q f listed a w → wpC P md ops D C' Q f listed a w
 | 0, listed, a, w, h => h
 | f + 1, listed, a, w, h => by
  refine ⟨h.1, fun k hk => ?_⟩
  have h2 := h.2 k hk
  by_cases hD : k ∈ D
  ·rw[if_pos hD] at h2 ⊢
   exact fun w' hw' => mOp_mono (fun a' w'' h3 => ⟨hC _ h3.1, wpC_weak hC f _ _ _ h3.2⟩) (h2 w' hw')
  ·rw[if_neg hD] at h2 ⊢
   exact qOp_mono (fun a' h3 => wpC_weak hC f _ _ _ h3) h2
theorem wpC_pure {D : List Nat} {C : World → Prop} {Q : Act → World → Prop} {i : Nat} {oi : Oper} {v : Value} (hi : ops[i]? = some oi) (hsel : ∀ (j : Nat) (o : Oper) cs b, ops[j]? = some o → o.op ≠ .select cs b) (hiD : i ∉ D)
  (f : Nat) (listed : Array Bool) (a : Act) (w : World)
  (hfree : ∀ j oj, ops[j]? = some oj → j ≠ i → listed.getD j true = false → (∀ e ∈ oj.after, Region.binds md e = true → e.on ≠ i) → oi.apart ops oj = true)
  (hr : i ∈ Region.ready md ops listed) (hy : Pure P ops oi v a)
  (H : wpC P md ops D C Q f (listed.setIfInBounds i true) (a.put oi.dst v) w) : wpC P md ops D C Q (f + 1) listed a w :=
 wpC_float (Cf := fun _ => True) hi hsel hiD f listed a w hfree hr (fun w' _ => hy.yields _) trivial (wpC_weak (fun w h => ⟨trivial, h⟩) f _ _ _ H)
end
end Go.Proofs.YtcgplgpdcfocpaaGreatDoor.Eng
end
section
namespace Go.Proofs.YtcgplgpdcfocpaaGreatDoor.Eng
open Go Go.RowKit
abbrev Env := Nat → Value
def upd (ρ : Env) (d : Nat) (v : Value) : Env := fun t => if t = d then v else ρ t
def updO (ρ : Env) : Option Nat → Value → Env
 | some d, v => upd ρ d v
 | none, _ => ρ
theorem upd_at (ρ : Env) (d : Nat) (v : Value) (t : Nat) : upd ρ d v t = if t = d then v else ρ t := rfl
def ev (ρ : Env) : Operand → Value
 | .tmp t => ρ t
 | .const v => v
 | .global g => .pointer (some ⟨g, 0, none⟩)
 | .func f => .func (.func f) #[] #[]
theorem ev_tmp (ρ : Env) (t : Nat) : ev ρ (.tmp t) = ρ t := rfl
theorem ev_const (ρ : Env) (v : Value) : ev ρ (.const v) = v := rfl
theorem ev_global (ρ : Env) (g : Nat) : ev ρ (.global g) = .pointer (some ⟨g, 0, none⟩) := rfl
inductive TyK where
 | bool | int (k : IntKind) | string | pointer | slice | agg (n : Nat) | other
 deriving DecidableEq
def tyk (P : Program) (t : TypeId) : Option TyK :=
 match P.underlying t with
 | some .bool => some .bool
 | some (.int k) => some (.int k)
 | some .string => some .string
 | some (.pointer _) => some .pointer
 | some (.slice _) => some .slice
 | some (.struct _) | some (.array _ _) => some (.agg (P.cellsOf t))
 | some _ => some .other
 | none => none
def cellsAt (w : World) (p : Addr) (cs : List Value) : Prop := ∀ j v, cs[j]? = some v → w.cell? (p.add j) = some v
def letK (v : Value) (K : Value → Prop) : Prop := K v
def boolK (v : Value) (K : Bool → Prop) : Prop := match v with | .bool b => K b | _ => False
def intK (v : Value) (K : Int → Prop) : Prop := match v with | .int _ n => K n | _ => False
def ptrK (v : Value) (K : Addr → Prop) : Prop := match v with | .pointer (some p) => K p | _ => False
def strK (v : Value) (K : ByteArray → Prop) : Prop := match v with | .string s => K s | _ => False
def slK (v : Value) (K : Option Addr → Nat → Nat → Prop) : Prop := match v with | .slice a n c => K a n c | _ => False
def tupK (v : Value) (i : Nat) (K : Value → Prop) : Prop := match v with | .tuple vs => (match vs[i]? with | some u => K u | none => False) | _ => False
def ldK (w : World) (k : TyK) (p : Addr) (K : Value → Prop) : Prop :=
 match k with
 | .int k => ∃ x, w.cell? p = some (.int k x) ∧ K (.int k x)
 | .bool => ∃ b, w.cell? p = some (.bool b) ∧ K (.bool b)
 | .string => ∃ s, w.cell? p = some (.string s) ∧ K (.string s)
 | .pointer => ∃ q, w.cell? p = some (.pointer q) ∧ K (.pointer q)
 | .slice => ∃ a n c, w.cell? p = some (.slice a n c) ∧ K (.slice a n c)
 | .agg n => ∃ cs : List Value, cs.length = n ∧ cellsAt w p cs ∧ K (.agg cs.toArray)
 | .other => ∃ v, w.cell? p = some v ∧ K v
def ibin (op : BinOp) (k : IntKind) (a b : Int) (K : Value → Prop) : Prop :=
 match op with
 | .add => K (.int k (k.wrap (a + b)))
 | .sub => K (.int k (k.wrap (a - b)))
 | .mul => K (.int k (k.wrap (a * b)))
 | .quo => b ≠ 0 ∧ K (.int k (k.wrap (a.tdiv b)))
 | .rem => b ≠ 0 ∧ K (.int k (a.tmod b))
 | .and => K (.int k (bits .and k a b))
 | .or => K (.int k (bits .or k a b))
 | .xor => K (.int k (bits .xor k a b))
 | .andNot => K (.int k (bits .andNot k a b))
 | .eql => K (.bool (decide (a = b)))
 | .neq => K (.bool (decide (a ≠ b)))
 | .lss => K (.bool (decide (a < b)))
 | .leq => K (.bool (decide (a ≤ b)))
 | .gtr => K (.bool (decide (b < a)))
 | .geq => K (.bool (decide (b ≤ a)))
 | _ => False
def binK (op : BinOp) (x y : Value) (K : Value → Prop) : Prop :=
 match op, x, y with
 | .shl, .int k a, .int _ b => 0 ≤ b ∧ K (.int k (k.wrap (a * 2 ^ (min b.toNat k.bits))))
 | .shr, .int k a, .int _ b => 0 ≤ b ∧ K (.int k (a.fdiv (2 ^ (min b.toNat k.bits))))
 | op, .int k a, .int k' b => k = k' ∧ ibin op k a b K
 | .eql, .string a, .string b => K (.bool (a.toList == b.toList))
 | .neq, .string a, .string b => K (.bool !(a.toList == b.toList))
 | .add, .string a, .string b => a.size + b.size ≤ 9223372036854775807 ∧ K (.string (a ++ b))
 | _, _, _ => False
def eqK (k : TyK) (neg : Bool) (x y : Value) (K : Value → Prop) : Prop :=
 match k, x, y with
 | .bool, .bool a, .bool b => K (.bool ((a == b) ^^ neg))
 | .pointer, .pointer none, .pointer b => K (.bool (b.isNone ^^ neg))
 | .pointer, .pointer (some _), .pointer none => K (.bool neg)
 | .slice, .slice none _ _, .slice b _ _ => K (.bool (b.isNone ^^ neg))
 | .slice, .slice (some _) _ _, .slice none _ _ => K (.bool neg)
 | _, _, _ => False
def unK (op : UnOp) (x : Value) (K : Value → Prop) : Prop :=
 match op, x with
 | .not, .bool b => K (.bool !b)
 | .neg, .int k n => K (.int k (k.wrap (0 - n)))
 | .xor, .int k n => K (.int k (bits .xor k (if k.signed then -1 else k.max) n))
 | _, _ => False
def optK (v : Option Value) (K : Option Int → Prop) : Prop :=
 match v with
 | none => K none
 | some (.int _ n) => K (some n)
 | _ => False
inductive I where
 | mv (x : Operand)
 | pick (c a b : Operand)
 | ld (k : TyK) (a : Operand)
 | st (n : Nat) (a x : Operand)
 | nilc (x : Operand)
 | bin (op : BinOp) (x y : Operand)
 | eq (k : TyK) (neg : Bool) (x y : Operand)
 | un (op : UnOp) (x : Operand)
 | cv (k : IntKind) (x : Operand)
 | slc (sz : Nat) (x : Operand) (lo hi mx : Option Operand)
 | sla (n sz : Nat) (x : Operand) (lo hi : Option Operand)
 | fa (off : Nat) (x : Operand)
 | ia (sz : Nat) (x i : Operand)
 | iaA (n sz : Nat) (x i : Operand)
 | ixa (n : Nat) (x i : Operand)
 | ext (x : Operand) (i : Nat)
 | alloc (t : Nat) (z : Value)
 | box (t : Nat) (x : Operand)
 | bld (z : Array Value) (pl : List (Nat × Nat)) (parts : List (Nat × Operand))
 | bsl (e sz len : Nat) (z : Array Value) (parts : List (Nat × Operand))
 | mks (e sz bytes : Nat) (z : Array Value) (l c : Operand)
 | call (f : Nat) (args : List Operand)
 | len (x : Operand)
 | cap (x : Operand)
 | app (e sz bytes : Nat) (z : Array Value) (x y : Operand)
 | cpy (sz : Nat) (x y : Operand)
 | min2 (x y : Operand)
 | max2 (x y : Operand)
 | no
 | cvbs (x : Operand)
 | cvid (x : Operand)
 | lens (x : Operand)
 | ixs (x i : Operand)
 | sls (x : Operand) (lo hi : Option Operand)
 | bsl0 (e : Nat)
 | appz (e sz bytes : Nat) (z : Array Value) (x y : Operand)
 | apps (e bytes : Nat) (z : Array Value) (x y : Operand)
 | mki (t : Nat) (x : Operand)
 | cvss (x : Operand)
 | rgs (x : Operand)
 | nxs (x : Operand)
 | raw (op : Op)
def callK (P : Program) (f : FuncId) (args : List Value) (w : World) (K : Value → World → Prop) : Prop :=
 Calls P f args.toArray w fun e w' => ∃ v, e = .returned v ∧ K v w'
theorem callK_mono {P : Program} {f : FuncId} {args : List Value} {w : World} {K K' : Value → World → Prop} (h : callK P f args w K) (hk : ∀ v w', K v w' → K' v w') : callK P f args w K' :=
 Calls.mono h fun e w' ⟨v, hv, hK⟩ => ⟨v, hv, hk v w' hK⟩
def qcallK (P : Program) (f : FuncId) (args : List Value) (w : World) (K : Value → Prop) : Prop :=
 ∃ v, (∀ n, callK P f args (w.drewN n) fun v' w' => v' = v ∧ ∃ m, w' = w.drewN m) ∧ K v
def fillL (pl : List (Nat × Nat)) (z : Array Value) (parts : List (Nat × Value)) : Option (Array Value) := Instr.fill (fun i => pl[i]?) z parts
def fillS (sz : Nat) (z : Array Value) (parts : List (Nat × Value)) : Option (Array Value) := Instr.fill (fun i => some (i * sz, sz)) z parts
def appC (e sz bytes : Nat) (z : Array Value) (A : Option Addr) (n c m : Nat) (new : List Value) (w : World) (K : Value → World → Prop) : Prop :=
 (n + m ≤ c → (m = 0 ∧ K (.slice A n c) w) ∨ (∃ b o, A = some ⟨b, o, none⟩ ∧ (∀ v ∈ new, v.oneCell' = true) ∧
  (∀ j, j < new.length → (w.cell? ⟨b, o + n * sz + j, none⟩).isSome = true) ∧ (∀ j, j < new.length → w.frozen? ⟨b, o + n * sz + j, none⟩ = false) ∧
  K (.slice A (n + m) c) (w.setCells b (o + n * sz) new))) ∧
 (c < n + m → ∃ old : List Value, old.length = n * sz ∧ (0 < n → ∃ p, A = some p ∧ cellsAt w p old) ∧ (n + m) * bytes ≤ 140737488355328 ∧ n + m ≤ 9223372036854775807 ∧ 0 < bytes ∧
  ∀ c', n + m ≤ c' → c' ≤ 9223372036854775807 → K (.slice (some ⟨w.heap.size, 0, none⟩) (n + m) c') (w.drew.alloc (.cells ((old ++ new).toArray ++ Builtin.zeroCells z (c' - (n + m))) e)))
def appK (e sz bytes : Nat) (z : Array Value) (x y : Value) (w : World) (K : Value → World → Prop) : Prop :=
 slK x fun A n c => slK y fun B m _ => ∃ new : List Value, new.length = m * sz ∧ (0 < m → ∃ p, B = some p ∧ cellsAt w p new) ∧ appC e sz bytes z A n c m new w K
def bytesL (s : ByteArray) : List Value := s.data.toList.map fun b => .int .u8 b.toNat
def appsK (e bytes : Nat) (z : Array Value) (x y : Value) (w : World) (K : Value → World → Prop) : Prop :=
 slK x fun A n c => strK y fun s => appC e 1 bytes z A n c s.size (bytesL s) w K
def appzK (e sz bytes : Nat) (z : Array Value) (x y : Value) (w : World) (K : Value → World → Prop) : Prop :=
 slK x fun A n c => intK y fun l => 0 ≤ l ∧ l * bytes ≤ 281474976710656 ∧ l ≤ 9223372036854775807 ∧ z.size = sz ∧ appC e sz bytes z A n c l.toNat (Builtin.zeroCells z l.toNat).toList w K
def markW (w : World) (a : Addr) : World := match w.shape? a.block with | some (_, n) => w.freeze { block := a.block, off := n } 1 | none => w
def rW (i : I) (ρ : Env) (w : World) (K : Value → Prop) : Prop :=
 match i with
 | .mv x => K (ev ρ x)
 | .pick c a b => boolK (ev ρ c) fun t => letK (if t then ev ρ a else ev ρ b) K
 | .ld k a => ptrK (ev ρ a) fun p => ldK w k p K
 | .nilc x => ptrK (ev ρ x) fun p => K (.pointer (some p))
 | .bin op x y => binK op (ev ρ x) (ev ρ y) K
 | .eq k neg x y => eqK k neg (ev ρ x) (ev ρ y) K
 | .un op x => unK op (ev ρ x) K
 | .cv k x => intK (ev ρ x) fun n => K (.int k (k.wrap n))
 | .slc sz x lo hi mx => slK (ev ρ x) fun A n c => optK (lo.map (ev ρ)) fun lo => optK (hi.map (ev ρ)) fun hi => optK (mx.map (ev ρ)) fun mx =>
   0 ≤ lo.getD 0 ∧ lo.getD 0 ≤ hi.getD n ∧ hi.getD n ≤ mx.getD c ∧ mx.getD c ≤ c ∧ (mx.isSome → hi.isSome) ∧
        K (.slice (if (mx.getD c).toNat = (lo.getD 0).toNat then A else A.map (·.add ((lo.getD 0).toNat * sz))) ((hi.getD n).toNat - (lo.getD 0).toNat) ((mx.getD c).toNat - (lo.getD 0).toNat))
 | .sla n sz x lo hi => ptrK (ev ρ x) fun p => optK (lo.map (ev ρ)) fun lo => optK (hi.map (ev ρ)) fun hi =>
   0 ≤ lo.getD 0 ∧ lo.getD 0 ≤ hi.getD n ∧ hi.getD n ≤ n ∧
        K (.slice (some (if n = (lo.getD 0).toNat then p else p.add ((lo.getD 0).toNat * sz))) ((hi.getD n).toNat - (lo.getD 0).toNat) (n - (lo.getD 0).toNat))
 | .fa off x => ptrK (ev ρ x) fun p => K (.pointer (some (p.add off)))
 | .ia sz x i => slK (ev ρ x) fun A n _ => intK (ev ρ i) fun i => ∃ p, A = some p ∧ 0 ≤ i ∧ i < n ∧ K (.pointer (some (p.add (i.toNat * sz))))
 | .iaA n sz x i => ptrK (ev ρ x) fun p => intK (ev ρ i) fun i => 0 ≤ i ∧ i < n ∧ K (.pointer (some (p.add (i.toNat * sz))))
 | .ixa n x i => (match ev ρ x with
  | .agg cs => intK (ev ρ i) fun i => 0 ≤ i ∧ i < n ∧ ∃ v, cs[i.toNat]? = some v ∧ K v
  | _ => False)
 | .ext x i => tupK (ev ρ x) i K
 | .bld z pl parts => ∃ cs, fillL pl z (parts.map fun p => (p.1, ev ρ p.2)) = some cs ∧ K (.agg cs)
 | .len x => slK (ev ρ x) fun _ n _ => K (.int .i64 n)
 | .cap x => slK (ev ρ x) fun _ _ c => K (.int .i64 c)
 | .min2 x y => (match ev ρ x, ev ρ y with
  | .int k a, .int _ b => K (.int k (if b < a then b else a))
  | _, _ => False)
 | .max2 x y => (match ev ρ x, ev ρ y with
  | .int k a, .int _ b => K (.int k (if a < b then b else a))
  | _, _ => False)
 | .cvbs x => slK (ev ρ x) fun A n _ => ∃ xs : List Int, xs.length = n ∧ (0 < n → ∃ p, A = some p ∧ cellsAt w p (xs.map (Value.int .u8))) ∧ K (.string (strOfNums xs))
 | .lens x => strK (ev ρ x) fun s => K (.int .i64 s.size)
 | .ixs x i => strK (ev ρ x) fun s => intK (ev ρ i) fun i => ∃ h : i.toNat < s.size, 0 ≤ i ∧ K (.int .u8 ((s[i.toNat]'h).toNat : Int))
 | .sls x lo hi => strK (ev ρ x) fun s => optK (lo.map (ev ρ)) fun lo => optK (hi.map (ev ρ)) fun hi =>
   0 ≤ lo.getD 0 ∧ lo.getD 0 ≤ hi.getD s.size ∧ hi.getD s.size ≤ s.size ∧ K (.string (s.extract (lo.getD 0).toNat (hi.getD s.size).toNat))
 | .mki t x => letK (ev ρ x) fun v => K (.iface t v)
 | .cvss x => strK (ev ρ x) fun s => K (.string s)
 | _ => False
def nxsK (p : Addr) (w : World) (K : Value → World → Prop) : Prop :=
 p.off = 0 ∧ ∃ s pos, w.heap[p.block]? = some (.stringIter s pos) ∧
  (pos < s.size → K (.tuple #[.bool true, .int .i64 pos, .int .i32 (Utf8.decode s pos).1]) { w with heap := w.heap.setIfInBounds p.block (.stringIter s (pos + (Utf8.decode s pos).2)) }) ∧
  (s.size ≤ pos → K (.tuple #[.bool false]) w)
def stK (n : Nat) (p : Addr) (v : Value) (w : World) (K : World → Prop) : Prop :=
 v.cells.size = n ∧ ((v.oneCell' = true ∧ (w.cell? p).isSome = true ∧ w.frozen? p = false ∧ K (w.setCell p v)) ∨
  (∃ cs, v = .agg cs ∧ p.spot = none ∧ (∀ u ∈ cs.toList, u.oneCell' = true) ∧ (∀ j, j < cs.size → (w.cell? ⟨p.block, p.off + j, none⟩).isSome = true) ∧ (∀ j, j < cs.size → w.frozen? ⟨p.block, p.off + j, none⟩ = false) ∧ K (w.setCells p.block p.off cs.toList)))
def runK (P : Program) (o : Oper) (e : Operand → Value) (w : World) (K : Value → World → Prop) : Prop :=
 match (execOp e o).run P w with
 | .ok (.value v) w' => K v w'
 | .ok .skip w' => K undef w'
 | .ok (.enter f args) w' => callK P f args.toList w' K
 | _ => False
theorem runK_mono {P : Program} {o : Oper} {e : Operand → Value} {w : World} {K K' : Value → World → Prop} (h : runK P o e w K) (hk : ∀ v w', K v w' → K' v w') : runK P o e w K' := by
 unfold runK at *
 split at h
 ·exact hk _ _ h
 ·exact hk _ _ h
 ·exact callK_mono h hk
 ·exact h.elim
def iW (P : Program) (i : I) (ρ : Env) (w : World) (K : Value → World → Prop) : Prop :=
 match i with
 | .st n a x => ptrK (ev ρ a) fun p => stK n p (ev ρ x) w fun w' => K undef w'
 | .alloc t z => K (.pointer (some ⟨w.heap.size, 0, none⟩)) (w.alloc (.cells z.cells t))
 | .box t x => K (.pointer (some ⟨w.heap.size, 0, none⟩)) (w.alloc (.cells (ev ρ x).cells t))
 | .bsl e sz len z parts => ∃ cs, fillS sz ((Array.range (len * sz)).map (z[· % z.size]!)) (parts.map fun p => (p.1, ev ρ p.2)) = some cs ∧ K (.slice (some ⟨w.heap.size, 0, none⟩) len len) (w.alloc (.cells cs e))
 | .mks e sz bytes z l c => intK (ev ρ l) fun l => intK (ev ρ c) fun c => 0 ≤ l ∧ l ≤ c ∧ (bytes : Int) * c ≤ 281474976710656 ∧ c ≤ 9223372036854775807 ∧
   K (.slice (some ⟨w.heap.size, 0, none⟩) l.toNat c.toNat) (w.alloc (.cells (madeCells z (c.toNat * sz)) e))
 | .call f args => callK P f (args.map (ev ρ)) w K
 | .app e sz bytes z x y => appK e sz bytes z (ev ρ x) (ev ρ y) w K
 | .apps e bytes z x y => appsK e bytes z (ev ρ x) (ev ρ y) w K
 | .appz e sz bytes z x y => appzK e sz bytes z (ev ρ x) (ev ρ y) w K
 | .bsl0 e => K (.slice (some ⟨w.heap.size, 0, none⟩) 0 0) (w.alloc (.cells #[] e))
 | .cvid x => slK (ev ρ x) fun A n c => ∃ a, A = some a ∧ K (.slice A n c) (markW w a)
 | .cpy sz x y => (match ev ρ x, ev ρ y with
  | .slice A n _, .slice B m _ => ∃ new : List Value, new.length = (Nat.min m n) * sz ∧ (0 < Nat.min m n → ∃ p b o, B = some p ∧ cellsAt w p new ∧ A = some ⟨b, o, none⟩ ∧ (∀ v ∈ new, v.oneCell' = true) ∧
        (∀ j, j < new.length → (w.cell? ⟨b, o + j, none⟩).isSome = true) ∧ (∀ j, j < new.length → w.frozen? ⟨b, o + j, none⟩ = false) ∧ K (.int .i64 ((Nat.min m n : Nat) : Int)) (w.setCells b o new)) ∧
        (Nat.min m n = 0 → K (.int .i64 0) w)
  | _, _ => False)
 | .rgs x => strK (ev ρ x) fun s => K (.pointer (some ⟨w.heap.size, 0, none⟩)) (w.alloc (.stringIter s 0))
 | .nxs x => ptrK (ev ρ x) fun p => nxsK p w K
 | .raw op => ∀ o : Oper, o.op = op → runK P o (ev ρ) w K
 | i => rW i ρ w fun v => K v w
def qW (P : Program) (i : I) (ρ : Env) (w : World) (K : Value → Prop) : Prop :=
 match i with
 | .call f args => qcallK P f (args.map (ev ρ)) w K
 | i => rW i ρ w K
end Go.Proofs.YtcgplgpdcfocpaaGreatDoor.Eng
end
section
namespace Go.Proofs.YtcgplgpdcfocpaaGreatDoor.Eng
open Go Go.RowKit
def zeroOf (P : Program) (t : TypeId) : Option Value := (P.info? t).bind (·.zero)
def strOp (P : Program) (op : Op) : Option I :=
 match op with
 | .move x | .assign x => some (.mv x)
 | .pick c a b => some (.pick c a b)
 | .load t a => (tyk P t).bind fun k => if (P.info? t).isSome then some (.ld k a) else none
 | .store t a x => if (P.info? t).isSome then some (.st (P.cellsOf t) a x) else none
 | .nilCheck x => some (.nilc x)
 | .binOp op xt x y _ => (match tyk P xt with
  | some (.int _) | some .string => some (.bin op x y)
  | some k => (match op with
   | .eql => some (.eq k false x y)
   | .neq => some (.eq k true x y)
   | _ => none)
  | none => none)
 | .unOp op _ x => some (.un op x)
 | .convert s d x => if (P.underlying s).isSome then (match tyk P d with
  | some (.int k) => some (.cv k x)
  | some .string => (match P.underlying s with
   | some .string => some (.cvss x)
   | some (.slice e) => (match P.underlying e with
    | some (.int .u8) => some (.cvbs x)
    | _ => none)
   | _ => none)
  | some .slice => if s == d then (match P.underlying d with
   | some (.slice e) => (match P.underlying e with
    | some (.int .u8) => some (.cvid x)
    | _ => none)
   | _ => none) else none
  | _ => none) else none
 | .makeInterface t x => (match P.underlying t with
  | some (.interface _) | none => none
  | some _ => some (.mki t x))
 | .slice t x lo hi mx => (match P.underlying t with
  | some (.slice e) => if (P.info? e).isSome then some (.slc (P.cellsOf e) x lo hi mx) else none
  | some (.array n e) => if (P.info? e).isSome && mx.isNone then some (.sla n (P.cellsOf e) x lo hi) else none
  | some .string => if mx.isNone then some (.sls x lo hi) else none
  | _ => none)
 | .fieldAddr s x f => (match P.underlying s with
  | some (.struct fs) => (match fs[f]? with
   | some fd => if (P.info? fd.type).isSome && !(P.cellsOf fd.type == 0) then some (.fa fd.offset x) else none
   | none => none)
  | _ => none)
 | .indexAddr t x i => (match P.underlying t with
  | some (.slice e) => if (P.info? e).isSome then some (.ia (P.cellsOf e) x i) else none
  | some (.array n e) => if (P.info? e).isSome then some (.iaA n (P.cellsOf e) x i) else none
  | _ => none)
 | .index t x i => (match P.underlying t with
  | some (.array n e) => (match tyk P e with
   | some (.agg _) => none
   | some _ => if (P.info? e).isSome && (P.cellsOf e == 1) then some (.ixa n x i) else none
   | none => none)
  | some .string => some (.ixs x i)
  | _ => none)
 | .extract t i => some (.ext t i)
 | .range t x => (match P.underlying t with
  | some .string => some (.rgs x)
  | _ => none)
 | .next x b => if b then some (.nxs x) else none
 | .alloc t => (zeroOf P t).map fun z => .alloc t z
 | .box t x => some (.box t x)
 | .build t parts => (match P.underlying t, zeroOf P t with
  | some (.struct fs), some z => if fs.toList.all (fun f => (P.info? f.type).isSome) then some (.bld z.cells (fs.toList.map fun f => (f.offset, P.cellsOf f.type)) parts.toList) else none
  | some (.array n e), some z => if (P.info? e).isSome && !(P.cellsOf e == 0) && parts.toList.all (fun p => decide (p.1 < n)) then some (.bld z.cells ((List.range n).map fun i => (i * P.cellsOf e, P.cellsOf e)) parts.toList) else none
  | _, _ => none)
 | .buildSlice t len parts => (match P.underlying t with
  | some (.slice e) => (match zeroOf P e with
   | some z => if len == 0 && parts.toList.isEmpty then some (.bsl0 e) else if !(len * P.cellsOf e == 0) && decide (len * P.cellsOf e ≤ 2 ^ 24) then some (.bsl e (P.cellsOf e) len z.cells parts.toList) else none
   | none => none)
  | _ => none)
 | .makeSlice t l c => (match P.underlying t with
  | some (.slice e) => (match P.info? e with
   | some i => i.zero.map fun z => .mks e i.size i.bytes z.cells l c
   | none => none)
  | _ => none)
 | .call c => (match c.callee with
  | .value (.func f) => (match P.funcs[f]? with
   | some fn => if fn.name == "runtime.NumGoroutine" || fn.body.isNone then none else some (.call f c.args.toList)
   | none => none)
  | .builtin .len => (match c.args.toList, c.argTypes.toList with
   | [x], [t] => (match P.underlying t with
    | some (.slice _) => some (.len x)
    | some .string => some (.lens x)
    | _ => none)
   | _, _ => none)
  | .builtin .cap => (match c.args.toList, c.argTypes.toList with
   | [x], [t] => (match P.underlying t with
    | some (.slice _) => some (.cap x)
    | _ => none)
   | _, _ => none)
  | .builtin .min => (match c.args.toList with
   | [x, y] => some (.min2 x y)
   | _ => none)
  | .builtin .max => (match c.args.toList with
   | [x, y] => some (.max2 x y)
   | _ => none)
  | .builtin .append => (match c.args.toList, c.argTypes.toList with
   | [x, y], [t, u] => (match P.underlying t, P.underlying u with
    | some (.slice e), some (.slice _) => (match P.info? e with
     | some i => if i.size == 0 then none else i.zero.map fun z => .app e i.size i.bytes z.cells x y
     | none => none)
    | some (.slice e), some (.int _) => (match P.info? e with
     | some i => if i.size == 0 then none else i.zero.map fun z => .appz e i.size i.bytes z.cells x y
     | none => none)
    | some (.slice e), some .string => (match P.info? e with
     | some i => if i.size == 1 then i.zero.map fun z => .apps e i.bytes z.cells x y else none
     | none => none)
    | _, _ => none)
   | _, _ => none)
  | .builtin .copy => (match c.args.toList, c.argTypes.toList with
   | [x, y], [t, u] => (match P.underlying t, P.underlying u with
    | some (.slice e), some (.slice _) => if (P.info? e).isSome then some (.cpy (P.cellsOf e) x y) else none
    | _, _ => none)
   | _, _ => none)
  | _ => none)
 | _ => none
def Same (w w' : World) : Prop := w'.heap = w.heap
theorem Same.cell {w w' : World} (h : Same w w') (a : Addr) : w'.cell? a = w.cell? a := by unfold World.cell?; rw[h]
theorem Same.cellsAt {w w' : World} (h : Same w w') {p : Addr} {cs : List Value} (hc : cellsAt w p cs) : cellsAt w' p cs := fun j v hj => (h.cell _).trans (hc j v hj)
theorem size_of {P : Program} {t : TypeId} (h : (P.info? t).isSome = true) (w : World) : (sizeOf t).run P w = .ok (P.cellsOf t) w := by
 obtain ⟨i, hi⟩ := Option.isSome_iff_exists.1 h
 simp[sizeOf,typeInfo,hi,Program.cellsOf]
theorem zero_run {P : Program} {t : TypeId} {z : Value} (hz : zeroOf P t = some z) (w : World) : (zeroValue t).run P w = .ok z w := by
 unfold zeroOf at hz
 cases hq : P.info? t with
 | none => simp[hq] at hz
 | some i =>
  have hiz : i.zero = some z := by simpa [hq] using hz
  simp[zeroValue,typeInfo,hq,hiz]
theorem boolK_elim {v : Value} {K : Bool → Prop} (h : boolK v K) : ∃ b, v = .bool b ∧ K b := by
 unfold boolK at h; split at h
 ·exact ⟨_, rfl, h⟩
 ·exact h.elim
theorem intK_elim {v : Value} {K : Int → Prop} (h : intK v K) : ∃ k n, v = .int k n ∧ K n := by
 unfold intK at h; split at h
 ·exact ⟨_, _, rfl, h⟩
 ·exact h.elim
theorem ptrK_elim {v : Value} {K : Addr → Prop} (h : ptrK v K) : ∃ p, v = .pointer (some p) ∧ K p := by
 unfold ptrK at h; split at h
 ·exact ⟨_, rfl, h⟩
 ·exact h.elim
theorem strK_elim {v : Value} {K : ByteArray → Prop} (h : strK v K) : ∃ s, v = .string s ∧ K s := by
 unfold strK at h; split at h
 ·exact ⟨_, rfl, h⟩
 ·exact h.elim
theorem slK_elim {v : Value} {K : Option Addr → Nat → Nat → Prop} (h : slK v K) : ∃ a n c, v = .slice a n c ∧ K a n c := by
 unfold slK at h; split at h
 ·exact ⟨_, _, _, rfl, h⟩
 ·exact h.elim
theorem tupK_elim {v : Value} {i : Nat} {K : Value → Prop} (h : tupK v i K) : ∃ vs u, v = .tuple vs ∧ vs[i]? = some u ∧ K u := by
 unfold tupK at h; split at h
 ·rename_i vs
  split at h
  ·rename_i u hu; exact ⟨vs, u, rfl, hu, h⟩
  ·exact h.elim
 ·exact h.elim
theorem optK_elim {v : Option Value} {K : Option Int → Prop} (h : optK v K) : (v = none ∧ K none) ∨ ∃ k n, v = some (.int k n) ∧ K (some n) := by
 unfold optK at h; split at h
 ·exact .inl ⟨rfl, h⟩
 ·exact .inr ⟨_, _, rfl, h⟩
 ·exact h.elim
theorem not_agg {P : Program} {t : TypeId} {k : TyK} (hk : tyk P t = some k) (hn : ∀ n, k ≠ .agg n) (w : World) : (isAgg t).run P w = .ok false w := by
 unfold tyk at hk
 split at hk <;> first | (cases hk; rename_i hu; simp[isAgg,run_underlying hu]; done) | (cases hk; exact absurd rfl (hn _)) | (injection hk with hk; subst hk; rename_i hu; rename_i d h1 h2 h3 h4 h5 h6 h7; simp only[isAgg,Sem.run_bind,run_underlying hu,Result.andThen_ok]; split <;> simp_all) | (cases hk)
theorem is_agg {P : Program} {t : TypeId} {n : Nat} (hk : tyk P t = some (.agg n)) (w : World) : (isAgg t).run P w = .ok true w ∧ n = P.cellsOf t := by
 unfold tyk at hk
 split at hk <;> first | (cases hk; rename_i hu; simp[isAgg,run_underlying hu]; done) | (cases hk)
theorem ld_run {P : Program} {t : TypeId} {k : TyK} (hk : tyk P t = some k) (hi : (P.info? t).isSome = true) {w : World} {p : Addr} {K : Value → Prop} (h : ldK w k p K) :
  ∃ v, K v ∧ ∀ w', Same w w' → (loadVar t p).run P w' = .ok v w' := by
 have one : ∀ v, (∀ n, k ≠ .agg n) → w.cell? p = some v → ∀ w', Same w w' → (loadVar t p).run P w' = .ok v w' := by
  intro v hn hc w' hw
  have hc' := (hw.cell p).trans hc
  simp[loadVar,not_agg hk hn w',hc']
 cases k with
 | int k => obtain ⟨x, hc, hK⟩ := h; exact ⟨_, hK, one _ (by simp) hc⟩
 | bool => obtain ⟨x, hc, hK⟩ := h; exact ⟨_, hK, one _ (by simp) hc⟩
 | string => obtain ⟨x, hc, hK⟩ := h; exact ⟨_, hK, one _ (by simp) hc⟩
 | pointer => obtain ⟨x, hc, hK⟩ := h; exact ⟨_, hK, one _ (by simp) hc⟩
 | slice => obtain ⟨x, y, z, hc, hK⟩ := h; exact ⟨_, hK, one _ (by simp) hc⟩
 | other => obtain ⟨x, hc, hK⟩ := h; exact ⟨_, hK, one _ (by simp) hc⟩
 | agg n =>
  obtain ⟨cs, hl, hc, hK⟩ := h
  refine ⟨_, hK, fun w' hw => ?_⟩
  obtain ⟨ha, hn⟩ := is_agg hk w'
  have hs := size_of hi w'
  have hr := run_loadCells_list (P := P) w' p cs (hw.cellsAt hc)
  simp[loadVar,ha,hs,← hn,← hl,hr]
theorem ibin_run {P : Program} {op : BinOp} {k : IntKind} {a b : Int} {K : Value → Prop} (h : ibin op k a b K) (hs : op ≠ .shl) (hs' : op ≠ .shr) : ∃ v, K v ∧ ∀ t w', (binOp op t (.int k a) (.int k b)).run P w' = .ok v w' := by
 have e1 : (a == b) = decide (a = b) := by by_cases hab : a = b <;> simp[hab]
 have e2 : (a != b) = decide (a ≠ b) := by by_cases hab : a = b <;> simp[hab]
 cases op <;> simp only[ibin] at h <;> first
  | exact h.elim
  | contradiction
  | (refine ⟨_, h, fun t w' => ?_⟩; simp[binOp,Op.intArith,Op.intBits,Op.intCmp,bits]; done)
  | (refine ⟨_, h.2, fun t w' => ?_⟩; simp[binOp,Op.intDiv,h.1]; done)
  | (refine ⟨_, h, fun t w' => ?_⟩; simp[binOp,Op.intCmp,e1]; done)
  | (refine ⟨_, h, fun t w' => ?_⟩; simp only[binOp,Op.intCmp,e2]; simp; done)
theorem bin_run {P : Program} {op : BinOp} {t : TypeId} {cx cy : Operand} {x y : Value} {K : Value → Prop} (h : binK op x y K) :
  ∃ v, K v ∧ ∀ w', (do eqGuard op t cx cy x y; binOp op t x y : Sem Value).run P w' = .ok v w' := by
 unfold binK at h
 split at h
 ·rename_i k a _ b
  refine ⟨_, h.2, fun w' => ?_⟩
  simp[eqGuard,binOp,Op.shift,Int.not_lt.2 h.1]
 ·rename_i k a _ b
  refine ⟨_, h.2, fun w' => ?_⟩
  simp[eqGuard,binOp,Op.shift,Int.not_lt.2 h.1]
 ·rename_i k a k' b n1 n2
  obtain ⟨rfl, h⟩ := h
  have hs : op ≠ .shl := by rintro rfl; simp at n1
  have hs' : op ≠ .shr := by rintro rfl; simp at n2
  obtain ⟨v, hK, hv⟩ := ibin_run (P := P) h hs hs'
  refine ⟨v, hK, fun w' => ?_⟩
  have hg : (eqGuard op t cx cy (.int k a) (.int k b)).run P w' = .ok () w' := by cases op <;> simp[eqGuard]
  simp only[Sem.run_bind,hg,Result.andThen_ok,hv]
 ·exact ⟨_, h, fun w' => by simp[eqGuard,binOp,Op.stringOp]⟩
 ·exact ⟨_, h, fun w' => by simp[eqGuard,binOp,Op.stringOp]⟩
 ·rename_i a b
  refine ⟨_, h.2, fun w' => ?_⟩
  have h1 := h.1
  simp[eqGuard,binOp,Op.stringOp]
  omega
 ·exact h.elim
theorem tyk_pointer {P : Program} {t : TypeId} (h : tyk P t = some .pointer) : ∃ e, P.underlying t = some (.pointer e) := by
 unfold tyk at h; split at h <;> first | exact ⟨_, by assumption⟩ | cases h
theorem tyk_slice {P : Program} {t : TypeId} (h : tyk P t = some .slice) : ∃ e, P.underlying t = some (.slice e) := by
 unfold tyk at h; split at h <;> first | exact ⟨_, by assumption⟩ | cases h
theorem tyk_bool {P : Program} {t : TypeId} (h : tyk P t = some .bool) : P.underlying t = some .bool := by
 unfold tyk at h; split at h <;> first | assumption | cases h
theorem tyk_string {P : Program} {t : TypeId} (h : tyk P t = some .string) : P.underlying t = some .string := by
 unfold tyk at h; split at h <;> first | assumption | cases h
theorem tyk_int {P : Program} {t : TypeId} {k : IntKind} (h : tyk P t = some (.int k)) : P.underlying t = some (.int k) := by
 unfold tyk at h; split at h <;> first | (injection h with h; injection h with h; subst h; assumption) | cases h
theorem eqs_run {P : Program} {t : TypeId} {cx cy : Operand} {x y : Value} {r : Bool} (hg : ∀ op w', (eqGuard op t cx cy x y).run P w' = .ok () w')
  (hb : binOp .eql t x y = do pure (.bool (← Op.equal t x y))) (hb' : binOp .neq t x y = do pure (.bool (!(← Op.equal t x y)))) (h : ∀ w', (Op.equalIn (9999 + 1) t x y).run P w' = .ok r w') (neg : Bool) (w' : World) :
  (do eqGuard (if neg then .neq else .eql) t cx cy x y; binOp (if neg then .neq else .eql) t x y : Sem Value).run P w' = .ok (.bool (r ^^ neg)) w' := by
 have h' : (Op.equal t x y).run P w' = .ok r w' := h w'
 cases neg
 ·have e : (if false = true then BinOp.neq else BinOp.eql) = .eql := rfl
  rw[e,hb]
  simp only[Sem.run_bind,hg,Result.andThen_ok,h',Bool.xor_false,Sem.run_pure]
 ·have e : (if true = true then BinOp.neq else BinOp.eql) = .neq := rfl
  rw[e,hb']
  simp only[Sem.run_bind,hg,Result.andThen_ok,h',Bool.xor_true,Sem.run_pure]
theorem eqd_bool {P : Program} {t : TypeId} (hu : P.underlying t = some .bool) (a b : Bool) (d : Nat) (w : World) : (Op.equalIn (d + 1) t (.bool a) (.bool b)).run P w = .ok (a == b) w := by
 simp only[Op.equalIn,Sem.run_bind,run_underlying hu,Result.andThen_ok,Sem.run_pure]
theorem eqd_ptr0 {P : Program} {t e : TypeId} (hu : P.underlying t = some (.pointer e)) (b : Option Addr) (d : Nat) (w : World) : (Op.equalIn (d + 1) t (.pointer none) (.pointer b)).run P w = .ok b.isNone w := by
 simp only[Op.equalIn,Sem.run_bind,run_underlying hu,Result.andThen_ok,Sem.run_pure]
theorem eqd_ptr1 {P : Program} {t e : TypeId} (hu : P.underlying t = some (.pointer e)) (a : Addr) (d : Nat) (w : World) : (Op.equalIn (d + 1) t (.pointer (some a)) (.pointer none)).run P w = .ok false w := by
 simp only[Op.equalIn,Sem.run_bind,run_underlying hu,Result.andThen_ok,Sem.run_pure]
theorem eqd_sl0 {P : Program} {t e : TypeId} (hu : P.underlying t = some (.slice e)) (n c m d' : Nat) (b : Option Addr) (d : Nat) (w : World) : (Op.equalIn (d + 1) t (.slice none n c) (.slice b m d')).run P w = .ok b.isNone w := by
 simp only[Op.equalIn,Sem.run_bind,run_underlying hu,Result.andThen_ok,Sem.run_pure]
theorem eqd_sl1 {P : Program} {t e : TypeId} (hu : P.underlying t = some (.slice e)) (n c m d' : Nat) (a : Addr) (d : Nat) (w : World) : (Op.equalIn (d + 1) t (.slice (some a) n c) (.slice none m d')).run P w = .ok false w := by
 simp only[Op.equalIn,Sem.run_bind,run_underlying hu,Result.andThen_ok,Sem.run_pure]
theorem eq_run {P : Program} {neg : Bool} {t : TypeId} {k : TyK} (hk : tyk P t = some k) {cx cy : Operand} {x y : Value} {K : Value → Prop} (h : eqK k neg x y K) :
  ∃ v, K v ∧ ∀ w', (do eqGuard (if neg then .neq else .eql) t cx cy x y; binOp (if neg then .neq else .eql) t x y : Sem Value).run P w' = .ok v w' := by
 unfold eqK at h
 split at h
 ·have hu := tyk_bool hk
  exact ⟨_, h, eqs_run (fun op w' => by cases op <;> simp[eqGuard]) rfl rfl (eqd_bool hu _ _ 9999) neg⟩
 ·obtain ⟨e, hu⟩ := tyk_pointer hk
  exact ⟨_, h, eqs_run (fun op w' => by cases op <;> simp[eqGuard]) rfl rfl (eqd_ptr0 hu _ 9999) neg⟩
 ·obtain ⟨e, hu⟩ := tyk_pointer hk
  rename_i p
  have := eqs_run (P := P) (t := t) (cx := cx) (cy := cy) (x := .pointer (some p)) (y := .pointer none) (fun op w' => by cases op <;> simp[eqGuard]) rfl rfl (eqd_ptr1 hu p 9999) neg
  exact ⟨_, h, by simpa using this⟩
 ·obtain ⟨e, hu⟩ := tyk_slice hk
  exact ⟨_, h, eqs_run (fun op w' => by cases op <;> simp[eqGuard]) rfl rfl (eqd_sl0 hu _ _ _ _ _ 9999) neg⟩
 ·obtain ⟨e, hu⟩ := tyk_slice hk
  rename_i p n c m d
  have := eqs_run (P := P) (t := t) (cx := cx) (cy := cy) (x := .slice (some p) n c) (y := .slice none m d) (fun op w' => by cases op <;> simp[eqGuard]) rfl rfl (eqd_sl1 hu n c m d p 9999) neg
  exact ⟨_, h, by simpa using this⟩
 ·exact h.elim
theorem un_run {P : Program} {op : UnOp} {x : Value} {K : Value → Prop} (h : unK op x K) : ∃ v, K v ∧ ∀ w', (Op.unary op x).run P w' = .ok v w' := by
 unfold unK at h
 split at h
 ·exact ⟨_, h, fun w' => by simp[Op.unary]⟩
 ·exact ⟨_, h, fun w' => by simp[Op.unary,Op.intArith]⟩
 ·exact ⟨_, h, fun w' => by simp[Op.unary,Op.intBits,bits]⟩
 ·exact h.elim
theorem bounds_run {P : Program} {isSlice : Bool} {n c : Nat} {lo hi mx : Option Value} {lo' hi' mx' : Option Int} (w : World)
  (hl : (lo = none ∧ lo' = none) ∨ ∃ k m, lo = some (.int k m) ∧ lo' = some m) (hh : (hi = none ∧ hi' = none) ∨ ∃ k m, hi = some (.int k m) ∧ hi' = some m)
  (hm : (mx = none ∧ mx' = none) ∨ ∃ k m, mx = some (.int k m) ∧ mx' = some m)
  (h0 : 0 ≤ lo'.getD 0) (h1 : lo'.getD 0 ≤ hi'.getD n) (h2 : hi'.getD n ≤ mx'.getD c) (h3 : mx'.getD c ≤ c) (h4 : mx'.isSome → hi'.isSome) :
  (Instr.sliceBounds isSlice n c lo hi mx).run P w = .ok ((lo'.getD 0).toNat, (hi'.getD n).toNat, (mx'.getD c).toNat) w := by
 rcases hl with ⟨rfl, rfl⟩ | ⟨kl, l, rfl, rfl⟩ <;> rcases hh with ⟨rfl, rfl⟩ | ⟨kh, h, rfl, rfl⟩ <;> rcases hm with ⟨rfl, rfl⟩ | ⟨km, m, rfl, rfl⟩ <;> simp only[Option.getD_some,Option.getD_none,Option.isSome_some,Option.isSome_none,Bool.false_eq_true,imp_false,not_true,false_implies] at h0 h1 h2 h3 h4 <;> (first | exact h4.elim | skip) <;>
  (try obtain ⟨l, rfl⟩ := Int.eq_ofNat_of_zero_le h0) <;> (try obtain ⟨h, rfl⟩ := Int.eq_ofNat_of_zero_le (show 0 ≤ h by omega)) <;> (try obtain ⟨m, rfl⟩ := Int.eq_ofNat_of_zero_le (show 0 ≤ m by omega)) <;>
  simp only[Instr.sliceBounds,Instr.sliceBound,asIntOf,Sem.run_bind,Sem.run_pure,Result.andThen_ok,Int.toNat_natCast,Option.getD_some,Option.getD_none,Int.toNat_zero,Option.isSome_some,Option.isSome_none] <;>
  (repeat (rw[if_pos (by omega)]; simp only[Sem.run_pure,Result.andThen_ok,Int.toNat_natCast]))
theorem build_struct {P : Program} {t : TypeId} {fs : Array Field} {z : Value} (hfs : P.underlying t = some (.struct fs)) (hz : zeroOf P t = some z) (hall : fs.toList.all (fun f => (P.info? f.type).isSome) = true)
  {parts : Array (Nat × Operand)} {ρ : Env} {cs : Array Value} (hcs : fillL (fs.toList.map fun f => (f.offset, P.cellsOf f.type)) z.cells (parts.toList.map fun p => (p.1, ev ρ p.2)) = some cs)
  {d : Option Tmp} {ty : TypeId} {pos : String} {af : Array Edge} {gd : Option (Nat × Bool)} (w : World) : (execOp (ev ρ) ⟨d, .build t parts, ty, pos, af, gd⟩).run P w = .ok (.value (.agg cs)) w := by
 have hzr := zero_run hz w
 have hm : ∀ (l : List Field), (∀ f ∈ l, (P.info? f.type).isSome = true) → ∀ acc, (List.foldlM (fun (b : Array (Nat × Nat)) (f : Field) => do pure (b.push (f.offset, ← sizeOf f.type))) acc l : Sem (Array (Nat × Nat))).run P w = .ok (acc ++ (l.map fun f => (f.offset, P.cellsOf f.type)).toArray) w := by
  intro l
  induction l with
  | nil => intro _ acc; simp
  | cons f l ih =>
   intro hl acc
   have h1 := size_of (hl f (by simp)) w
   simp only[List.foldlM_cons,Sem.run_bind,h1,Result.andThen_ok,Sem.run_pure]
   rw[ih (fun g hg => hl g (by simp [hg]))]
   simp
 have hmap : (fs.mapM (fun f => do pure (f.offset, ← sizeOf f.type)) : Sem (Array (Nat × Nat))).run P w = .ok (fs.toList.map fun f => (f.offset, P.cellsOf f.type)).toArray w := by
  have := hm fs.toList (fun f hf => List.all_eq_true.1 hall f hf) #[]
  rw[Array.mapM_eq_foldlM,← Array.foldlM_toList]
  simpa using this
 have hfill : Instr.fill (fun i => ((fs.toList.map fun f => (f.offset, P.cellsOf f.type)).toArray)[i]?) z.cells ((parts.map fun (x : Nat × Operand) => (x.1, ev ρ x.2)).toList) = some cs := by
  simpa [fillL] using hcs
 show (Instr.build t (parts.map fun (x : Nat × Operand) => (x.1, ev ρ x.2)) >>= fun v => pure (Next.value v)).run P w = _
 simp only[Instr.build,Sem.run_bind,hzr,Result.andThen_ok,Sem.run_pure,run_underlying hfs,hmap,hfill]
theorem fill_congr {f g : Nat → Option (Nat × Nat)} : ∀ (parts : List (Nat × Value)) (z : Array Value), (∀ p ∈ parts, f p.1 = g p.1) → Instr.fill f z parts = Instr.fill g z parts
 | [], _, _ => rfl
 | (i, v) :: rest, z, h => by
  simp only[Instr.fill]
  rw[h (i,v) (by simp)]
  cases g i with
  | none => rfl
  | some q =>
   obtain ⟨off, size⟩ := q
   simp only
   split
   ·rfl
   ·exact fill_congr rest _ (fun p hp => h p (by simp[hp]))
theorem build_array {P : Program} {t e : TypeId} {n : Nat} {z : Value} (hfs : P.underlying t = some (.array n e)) (hz : zeroOf P t = some z) (hinfo : (P.info? e).isSome = true)
  {parts : Array (Nat × Operand)} (hp : ∀ p ∈ parts.toList, p.1 < n) {ρ : Env} {cs : Array Value} (hcs : fillL ((List.range n).map fun i => (i * P.cellsOf e, P.cellsOf e)) z.cells (parts.toList.map fun p => (p.1, ev ρ p.2)) = some cs)
  {d : Option Tmp} {ty : TypeId} {pos : String} {af : Array Edge} {gd : Option (Nat × Bool)} (w : World) : (execOp (ev ρ) ⟨d, .build t parts, ty, pos, af, gd⟩).run P w = .ok (.value (.agg cs)) w := by
 have hzr := zero_run hz w
 have hs := size_of hinfo w
 have hfill : Instr.fill (fun i => some (i * P.cellsOf e, P.cellsOf e)) z.cells ((parts.map fun (x : Nat × Operand) => (x.1, ev ρ x.2)).toList) = some cs := by
  rw[← hcs]
  unfold fillL
  rw[show (parts.map fun (x : Nat × Operand) => (x.1, ev ρ x.2)).toList = parts.toList.map fun p => (p.1, ev ρ p.2) by simp]
  refine fill_congr _ _ (fun p hp' => ?_)
  simp only[List.mem_map] at hp'
  obtain ⟨q, hq, rfl⟩ := hp'
  have := hp q hq
  simp[this]
 show (Instr.build t (parts.map fun (x : Nat × Operand) => (x.1, ev ρ x.2)) >>= fun v => pure (Next.value v)).run P w = _
 simp only[Instr.build,Sem.run_bind,hzr,Result.andThen_ok,Sem.run_pure,run_underlying hfs,hs,hfill]
theorem bin_exec {P : Program} {op : BinOp} {t yt : TypeId} {x y : Operand} {ρ : Env} {d : Option Tmp} {ty : TypeId} {pos : String} {af : Array Edge} {gd : Option (Nat × Bool)} {w' : World} {v : Value}
  (h : (do eqGuard op t x y (ev ρ x) (ev ρ y); binOp op t (ev ρ x) (ev ρ y) : Sem Value).run P w' = .ok v w') : (execOp (ev ρ) ⟨d, .binOp op t x y yt, ty, pos, af, gd⟩).run P w' = .ok (.value v) w' := by
 show ((do eqGuard op t x y (ev ρ x) (ev ρ y); binOp op t (ev ρ x) (ev ρ y) : Sem Value) >>= fun v => pure (Next.value v)).run P w' = _
 rw[Sem.run_bind,h]
 rfl
def ldB : I → Bool
 | .ld .. | .cvbs .. => true
 | _ => false
theorem cvbs_run {P : Program} {s d e : TypeId} (hs : P.underlying s = some (.slice e)) (he : P.underlying e = some (.int .u8)) (hd : P.underlying d = some .string) {A : Option Addr} {n c : Nat} {xs : List Int} (hl : xs.length = n) {w : World}
  (h : 0 < n → ∃ p, A = some p ∧ cellsAt w p (xs.map (Value.int .u8))) : (convert s d (.slice A n c)).run P w = .ok (.string (strOfNums xs)) w := by
 cases A with
 | none =>
  have : n = 0 := by
   rcases Nat.eq_zero_or_pos n with h0 | h0
   ·exact h0
   ·obtain ⟨p, hp, _⟩ := h h0; cases hp
  subst this
  have : xs = [] := List.eq_nil_of_length_eq_zero hl
  subst this
  exact run_convert_bytes_nil w s e hs he 0 c d hd
 | some p =>
  rcases Nat.eq_zero_or_pos n with h0 | h0
  ·subst h0
   have : xs = [] := List.eq_nil_of_length_eq_zero hl
   subst this
   simp[convert,run_underlying hs,run_underlying hd,run_underlying he,Conv.bytesToString,loadCells,loadCellsFrom,strOfNums]
   rfl
  ·obtain ⟨p', hp, hc⟩ := h h0
   cases hp
   have h1 : w.cell? p = some (.int .u8 (xs.getD 0 0)) := by
    have := hc 0 (.int .u8 (xs.getD 0 0)) (by cases xs with | nil => simp at hl; omega | cons x l => simp)
    simpa [Addr.add] using this
   obtain ⟨b, o, sp⟩ := p
   have hsp : sp = none := by
    cases sp with
    | none => rfl
    | some q => simp only[World.cell?] at h1; split at h1 <;> simp at h1
   subst hsp
   refine run_convert_bytes_arg w s e hs he b o n c xs hl (fun i hi => ?_) d hd
   have := hc i (.int .u8 (xs.getD i 0)) (by have : i < xs.length := by omega
                                             simp[this])
   rwa [Addr.add_lit] at this
theorem r_sound {P : Program} {o : Oper} {i : I} (hi : strOp P o.op = some i) {ρ : Env} {w : World} {K : Value → Prop} (h : rW i ρ w K) :
  ∃ v, K v ∧ ∀ w', (ldB i = true → Same w w') → (execOp (ev ρ) o).run P w' = .ok (.value v) w' := by
 obtain ⟨dst, op, ty, pos, af, gd⟩ := o
 simp only at hi
 cases op <;> simp only[strOp] at hi
 case move x => cases hi; exact ⟨_, h, fun w' _ => rfl⟩
 case assign x => cases hi; exact ⟨_, h, fun w' _ => rfl⟩
 case pick c a b =>
  cases hi
  obtain ⟨t, ht, hK⟩ := boolK_elim h
  refine ⟨_, hK, fun w' _ => ?_⟩
  simp[execOp,ht,asBool]
 case load t a =>
  cases hk : tyk P t with
  | none => simp[hk] at hi
  | some k =>
   simp only[hk,Option.bind_some] at hi
   split at hi
   ·rename_i hinfo
    cases hi
    obtain ⟨p, hp, h⟩ := ptrK_elim h
    obtain ⟨v, hK, hr⟩ := ld_run hk hinfo h
    refine ⟨v, hK, fun w' hw => ?_⟩
    simp[execOp,Instr.loadAt,Instr.sureAddr,hp,hr w' (hw rfl)]
   ·cases hi
 case store t a x => split at hi <;> cases hi; exact h.elim
 case range t x => split at hi <;> cases hi; exact h.elim
 case next x b => split at hi <;> cases hi; exact h.elim
 case nilCheck x =>
  cases hi
  obtain ⟨p, hp, hK⟩ := ptrK_elim h
  exact ⟨_, hK, fun w' _ => by simp[execOp,hp]⟩
 case binOp op xt x y yt =>
  split at hi
  ·cases hi
   obtain ⟨v, hK, hr⟩ := bin_run (P := P) (t := xt) (cx := x) (cy := y) h
   exact ⟨v, hK, fun w' _ => bin_exec (hr w')⟩
  ·cases hi
   obtain ⟨v, hK, hr⟩ := bin_run (P := P) (t := xt) (cx := x) (cy := y) h
   exact ⟨v, hK, fun w' _ => bin_exec (hr w')⟩
  ·rename_i k _ _ hk
   split at hi
   ·cases hi
    obtain ⟨v, hK, hr⟩ := eq_run (P := P) (neg := false) hk (cx := x) (cy := y) h
    exact ⟨v, hK, fun w' _ => bin_exec (hr w')⟩
   ·cases hi
    obtain ⟨v, hK, hr⟩ := eq_run (P := P) (neg := true) hk (cx := x) (cy := y) h
    exact ⟨v, hK, fun w' _ => bin_exec (hr w')⟩
   ·cases hi
  ·cases hi
 case unOp op t x =>
  cases hi
  obtain ⟨v, hK, hr⟩ := un_run (P := P) h
  exact ⟨v, hK, fun w' _ => by simp[execOp,hr w']⟩
 case convert s d x =>
  split at hi
  ·rename_i hs
   split at hi
   ·rename_i k hk
    cases hi
    obtain ⟨k', n, hn, hK⟩ := intK_elim h
    have hu := tyk_int hk
    obtain ⟨ds, hds⟩ := Option.isSome_iff_exists.1 hs
    refine ⟨_, hK, fun w' _ => ?_⟩
    simp[execOp,hn,convert,run_underlying hu,run_underlying hds,Conv.intToInt]
   ·rename_i hk
    have hu := tyk_string hk
    split at hi
    ·rename_i hs'
     cases hi
     obtain ⟨s', hs2, hK⟩ := strK_elim h
     refine ⟨_, hK, fun w' _ => ?_⟩
     simp[execOp,hs2,convert,run_underlying hu,run_underlying hs']
    ·rename_i e he
     split at hi
     ·rename_i he8
      cases hi
      obtain ⟨A, n, c, hv, xs, hl, hc, hK⟩ := slK_elim h
      refine ⟨_, hK, fun w' hw => ?_⟩
      have := cvbs_run (P := P) (c := c) he he8 hu hl (w := w') (fun h0 => let ⟨p, hp, hcc⟩ := hc h0; ⟨p, hp, (hw rfl).cellsAt hcc⟩)
      simp[execOp,hv,this]
     ·cases hi
    ·cases hi
   ·split at hi
    ·split at hi
     ·split at hi
      ·cases hi; exact h.elim
      ·cases hi
     ·cases hi
    ·cases hi
   ·cases hi
  ·cases hi
 case makeInterface t x =>
  split at hi
  ·cases hi
  ·cases hi
  ·rename_i d hd hnone
   cases hi
   refine ⟨_, h, fun w' _ => ?_⟩
   simp only[execOp,Instr.makeInterface,Sem.run_bind,run_underlying hnone,Result.andThen_ok,Sem.run_pure]
 case slice t x lo hi' mx =>
  split at hi
  ·rename_i e he
   split at hi
   ·rename_i hinfo
    cases hi
    obtain ⟨A, n, c, hx, h⟩ := slK_elim h
    refine ?_
    have hs := fun w' => size_of (P := P) hinfo w'
    rcases optK_elim h with ⟨e1, h⟩ | ⟨k1, l1, e1, h⟩ <;> rcases optK_elim h with ⟨e2, h⟩ | ⟨k2, l2, e2, h⟩ <;> rcases optK_elim h with ⟨e3, h⟩ | ⟨k3, l3, e3, h⟩ <;> obtain ⟨h0, h1, h2, h3, h4, hK⟩ := h <;> refine ⟨_, hK, fun w' _ => ?_⟩ <;>
     (have hb := bounds_run (P := P) (isSlice := true) (n := n) (c := c) (lo := lo.map (ev ρ)) (hi := hi'.map (ev ρ)) (mx := mx.map (ev ρ)) w' (by first | exact .inl ⟨e1, rfl⟩ | exact .inr ⟨_, _, e1, rfl⟩) (by first | exact .inl ⟨e2, rfl⟩ | exact .inr ⟨_, _, e2, rfl⟩) (by first | exact .inl ⟨e3, rfl⟩ | exact .inr ⟨_, _, e3, rfl⟩) h0 h1 h2 h3 h4
      simp only[execOp,hx,Sem.run_bind,Instr.sliceAt,run_underlying he,Result.andThen_ok,Instr.slice,hb,hs w',Sem.run_pure])
   ·cases hi
  ·rename_i n e he
   split at hi
   ·rename_i hinfo
    simp only[Bool.and_eq_true,Option.isNone_iff_eq_none] at hinfo
    obtain ⟨hinfo, rfl⟩ := hinfo
    cases hi
    obtain ⟨p, hx, h⟩ := ptrK_elim h
    have hs := fun w' => size_of (P := P) hinfo w'
    rcases optK_elim h with ⟨e1, h⟩ | ⟨k1, l1, e1, h⟩ <;> rcases optK_elim h with ⟨e2, h⟩ | ⟨k2, l2, e2, h⟩ <;> obtain ⟨h0, h1, h2, hK⟩ := h <;> refine ⟨_, hK, fun w' _ => ?_⟩ <;>
     (have hb := bounds_run (P := P) (isSlice := false) (n := n) (c := n) (lo := lo.map (ev ρ)) (hi := hi'.map (ev ρ)) (mx := none) (mx' := none) w' (by first | exact .inl ⟨e1, rfl⟩ | exact .inr ⟨_, _, e1, rfl⟩) (by first | exact .inl ⟨e2, rfl⟩ | exact .inr ⟨_, _, e2, rfl⟩) (.inl ⟨rfl, rfl⟩) h0 h1 h2 (by simp) (by simp)
      simp only[Option.getD_none,Int.toNat_natCast] at hb
      simp only[execOp,hx,Sem.run_bind,Instr.sliceAt,run_underlying he,Result.andThen_ok,Instr.sureAddr,Option.map_none,hb,hs w',Sem.run_pure,Option.getD_none,Int.toNat_natCast])
   ·cases hi
  ·rename_i he
   split at hi
   ·rename_i hmx
    simp only[Option.isNone_iff_eq_none] at hmx
    subst hmx
    cases hi
    obtain ⟨s, hx, h⟩ := strK_elim h
    rcases optK_elim h with ⟨e1, h⟩ | ⟨k1, l1, e1, h⟩ <;> rcases optK_elim h with ⟨e2, h⟩ | ⟨k2, l2, e2, h⟩ <;> obtain ⟨h0, h1, h2, hK⟩ := h <;> refine ⟨_, hK, fun w' _ => ?_⟩ <;>
     (have hb := bounds_run (P := P) (isSlice := false) (n := s.size) (c := s.size) (lo := lo.map (ev ρ)) (hi := hi'.map (ev ρ)) (mx := none) (mx' := none) w' (by first | exact .inl ⟨e1, rfl⟩ | exact .inr ⟨_, _, e1, rfl⟩) (by first | exact .inl ⟨e2, rfl⟩ | exact .inr ⟨_, _, e2, rfl⟩) (.inl ⟨rfl, rfl⟩) h0 h1 h2 (by simp) (by simp)
      simp only[Option.getD_none,Int.toNat_natCast] at hb
      simp only[execOp,hx,Sem.run_bind,Instr.sliceAt,Instr.slice,run_underlying he,Result.andThen_ok,Option.map_none,Option.isSome_none,Bool.false_eq_true,if_false,hb,Sem.run_pure,Option.getD_none,Int.toNat_natCast])
   ·cases hi
  ·cases hi
 case fieldAddr s x f =>
  split at hi
  ·rename_i fs hfs
   split at hi
   ·rename_i fd hfd
    split at hi
    ·rename_i hinfo
     simp only[Bool.and_eq_true,Bool.not_eq_true',beq_eq_false_iff_ne,ne_eq] at hinfo
     cases hi
     obtain ⟨p, hp, hK⟩ := ptrK_elim h
     refine ⟨_, hK, fun w' _ => ?_⟩
     have hs := size_of hinfo.1 w'
     simp[execOp,Instr.fieldAt,run_underlying hfs,hfd,hp,Instr.sureAddr,fieldPlace,hs,hinfo.2]
    ·cases hi
   ·cases hi
  ·cases hi
 case indexAddr t x i =>
  split at hi
  ·rename_i e he
   split at hi
   ·rename_i hinfo
    cases hi
    obtain ⟨A, n, c, hx, h⟩ := slK_elim h
    obtain ⟨k, i', hi', p, rfl, h0, h1, hK⟩ := intK_elim h
    refine ⟨_, hK, fun w' _ => ?_⟩
    have hs := size_of hinfo w'
    simp[execOp,Instr.indexAt,run_underlying he,hx,hi',asIntOf,h0,h1,hs]
   ·cases hi
  ·rename_i n e he
   split at hi
   ·rename_i hinfo
    cases hi
    obtain ⟨p, hx, h⟩ := ptrK_elim h
    obtain ⟨k, i', hi', h0, h1, hK⟩ := intK_elim h
    refine ⟨_, hK, fun w' _ => ?_⟩
    have hs := size_of hinfo w'
    simp[execOp,Instr.indexAt,run_underlying he,hx,hi',asIntOf,h0,h1,hs,Instr.sureAddr]
   ·cases hi
  ·cases hi
 case index t x i =>
  split at hi
  ·rename_i n e he
   split at hi
   ·cases hi
   ·rename_i k hk hnag
    split at hi
    ·rename_i hinfo
     simp only[Bool.and_eq_true,beq_iff_eq] at hinfo
     cases hi
     simp only[rW] at h
     split at h
     ·rename_i cs hx
      obtain ⟨k', i', hi', h0, h1, v, hv, hK⟩ := intK_elim h
      refine ⟨v, hK, fun w' _ => ?_⟩
      have hs := size_of hinfo.1 w'
      have hna := not_agg hnag (fun n hn => by subst hn; exact hk n rfl) w'
      simp[execOp,Instr.index,run_underlying he,hx,hi',asIntOf,h0,h1,hs,part,hinfo.2,hna,hv]
     ·exact h.elim
    ·cases hi
   ·cases hi
  ·rename_i he
   cases hi
   obtain ⟨s, hx, h⟩ := strK_elim h
   obtain ⟨k', i', hi', hlt, h0, hK⟩ := intK_elim h
   refine ⟨_, hK, fun w' _ => ?_⟩
   simp[execOp,Instr.index,run_underlying he,hx,hi',asIntOf,h0,hlt]
  ·cases hi
 case extract t i =>
  cases hi
  obtain ⟨vs, u, hvs, hu, hK⟩ := tupK_elim h
  exact ⟨_, hK, fun w' _ => by simp[execOp,hvs,Instr.extract,hu]⟩
 case alloc t => simp only[Option.map_eq_some_iff] at hi; obtain ⟨z, _, rfl⟩ := hi; exact h.elim
 case box t x => cases hi; exact h.elim
 case buildSlice t len parts =>
  split at hi
  ·split at hi
   ·split at hi
    ·cases hi; exact h.elim
    ·split at hi
     ·cases hi; exact h.elim
     ·cases hi
   ·cases hi
  ·cases hi
 case makeSlice t l c =>
  split at hi
  ·split at hi
   ·simp only[Option.map_eq_some_iff] at hi; obtain ⟨z, _, rfl⟩ := hi; exact h.elim
   ·cases hi
  ·cases hi
 case build t parts =>
  split at hi
  ·rename_i fs z hfs hz
   split at hi
   ·rename_i hall
    cases hi
    obtain ⟨cs, hcs, hK⟩ := h
    refine ⟨_, hK, fun w' _ => ?_⟩
    exact build_struct hfs hz hall hcs w'
   ·cases hi
  ·rename_i n e z hfs hz
   split at hi
   ·rename_i hc
    simp only[Bool.and_eq_true,Bool.not_eq_true',beq_eq_false_iff_ne,ne_eq,List.all_eq_true,decide_eq_true_eq] at hc
    cases hi
    obtain ⟨cs, hcs, hK⟩ := h
    refine ⟨_, hK, fun w' _ => ?_⟩
    exact build_array hfs hz hc.1.1 hc.2 hcs w'
   ·cases hi
  ·cases hi
 case call c =>
  obtain ⟨callee, args, ats⟩ := c
  simp only at hi
  cases callee <;> try simp only at hi
  case invoke => cases hi
  case value f =>
   cases f <;> try simp only at hi
   case func f =>
    split at hi
    ·split at hi
     ·cases hi
     ·cases hi; exact h.elim
    ·cases hi
   all_goals cases hi
  case builtin b =>
   cases b <;> try simp only at hi
   case len =>
    split at hi
    ·rename_i x t hx ht
     split at hi
     ·rename_i e hu
      cases hi
      obtain ⟨A, n, c, hv, hK⟩ := slK_elim h
      refine ⟨_, hK, fun w' _ => ?_⟩
      have hx' : args = #[x] := by rw[← hx]
      have ht' : ats = #[t] := by rw[← ht]
      subst hx'; subst ht'
      simp[execOp,resolve,invoke,builtin,Builtin.len_,run_underlying hu,hv,goInt]
     ·rename_i hu
      cases hi
      obtain ⟨s, hv, hK⟩ := strK_elim h
      refine ⟨_, hK, fun w' _ => ?_⟩
      have hx' : args = #[x] := by rw[← hx]
      have ht' : ats = #[t] := by rw[← ht]
      subst hx'; subst ht'
      simp[execOp,resolve,invoke,builtin,Builtin.len_,run_underlying hu,hv,goInt]
     ·cases hi
    ·cases hi
   case cap =>
    split at hi
    ·rename_i x t hx ht
     split at hi
     ·rename_i e hu
      cases hi
      obtain ⟨A, n, c, hv, hK⟩ := slK_elim h
      refine ⟨_, hK, fun w' _ => ?_⟩
      have hx' : args = #[x] := by rw[← hx]
      have ht' : ats = #[t] := by rw[← ht]
      subst hx'; subst ht'
      simp[execOp,resolve,invoke,builtin,Builtin.cap_,run_underlying hu,hv,goInt]
     ·cases hi
    ·cases hi
   case min =>
    split at hi
    ·rename_i x y hx
     cases hi
     simp only[rW] at h
     split at h
     ·rename_i k a k' b hv1 hv2
      refine ⟨_, h, fun w' _ => ?_⟩
      have hx' : args = #[x, y] := by rw[← hx]
      subst hx'
      simp[execOp,resolve,invoke,builtin,Builtin.min_,Builtin.min2,hv1,hv2,List.foldlM]
     ·exact h.elim
    ·cases hi
   case max =>
    split at hi
    ·rename_i x y hx
     cases hi
     simp only[rW] at h
     split at h
     ·rename_i k a k' b hv1 hv2
      refine ⟨_, h, fun w' _ => ?_⟩
      have hx' : args = #[x, y] := by rw[← hx]
      subst hx'
      simp[execOp,resolve,invoke,builtin,Builtin.max_,Builtin.max2,hv1,hv2,List.foldlM]
     ·exact h.elim
    ·cases hi
   case append =>
    split at hi
    ·split at hi
     ·split at hi
      ·split at hi
       ·cases hi
       ·simp only[Option.map_eq_some_iff] at hi; obtain ⟨z, _, rfl⟩ := hi; exact h.elim
      ·cases hi
     ·split at hi
      ·split at hi
       ·cases hi
       ·simp only[Option.map_eq_some_iff] at hi; obtain ⟨z, _, rfl⟩ := hi; exact h.elim
      ·cases hi
     ·split at hi
      ·split at hi
       ·simp only[Option.map_eq_some_iff] at hi; obtain ⟨z, _, rfl⟩ := hi; exact h.elim
       ·cases hi
      ·cases hi
     ·cases hi
    ·cases hi
   case copy =>
    split at hi
    ·split at hi
     ·split at hi
      ·cases hi; exact h.elim
      ·cases hi
     ·cases hi
    ·cases hi
   all_goals cases hi
 all_goals cases hi
end Go.Proofs.YtcgplgpdcfocpaaGreatDoor.Eng
end
section
namespace Go.Proofs.YtcgplgpdcfocpaaGreatDoor.Eng
open Go Go.RowKit
theorem runK_value {P : Program} {o : Oper} {e : Operand → Value} {w w' : World} {v : Value} {K : Value → World → Prop} (h : (execOp e o).run P w = .ok (.value v) w') (hK : K v w') : runK P o e w K := by
 unfold runK; rw[h]; exact hK
theorem runK_skip {P : Program} {o : Oper} {e : Operand → Value} {w w' : World} {K : Value → World → Prop} (h : (execOp e o).run P w = .ok .skip w') (hK : K undef w') : runK P o e w K := by
 unfold runK; rw[h]; exact hK
theorem cells_one {v : Value} (h : v.oneCell' = true) : v.cells = #[v] := by
 cases v <;> first | rfl | (simp[Value.oneCell'] at h)
theorem st_run {P : Program} {t : TypeId} (hinfo : (P.info? t).isSome = true) {p : Addr} {v : Value} {w : World} {K : World → Prop} (h : stK (P.cellsOf t) p v w K) :
  ∃ w', (storeVar t p v).run P w = .ok () w' ∧ K w' := by
 obtain ⟨hsz, h⟩ := h
 have hs := size_of hinfo w
 rcases h with ⟨h1, hc, hf, hK⟩ | ⟨cs, rfl, hspot, h1, hc, hf, hK⟩
 ·refine ⟨_, ?_, hK⟩
  obtain ⟨u, hu⟩ := Option.isSome_iff_exists.1 hc
  have hst := run_store P w p v .plain h1
  rw[hu,hf] at hst
  simp only[Bool.false_eq_true,if_false] at hst
  have hcl := cells_one h1
  simp only[storeVar,Sem.run_bind,hs,Result.andThen_ok]
  rw[if_neg (by simp [hsz])]
  rw[hcl]
  have h0 : p.add 0 = p := by simp[Addr.add]
  simp only[storeCells,Sem.run_bind,h0,Sem.run_pure]
  exact (congrArg (fun r => Result.andThen r fun _ w' => (Result.ok () w' : Result Unit)) hst).trans rfl
 ·refine ⟨_, ?_, hK⟩
  have hp : p = ⟨p.block, p.off, none⟩ := by cases p; simp_all
  have hsc := run_storeCells_cells (P := P) p.block p.off cs.toList 0 w (by simpa using hc) (by simpa using hf) h1
  rw[← hp] at hsc
  simp only[storeVar,Sem.run_bind,hs,Result.andThen_ok]
  rw[if_neg (by simp [hsz])]
  simpa [Value.cells] using hsc
theorem Same.drew (w : World) : Same w w.drew := rfl
theorem first_run {P : Program} {sz n len cap : Nat} {A : Option Addr} {cs : List Value} {w : World} (hl : cs.length = n * sz) (h : 0 < n → ∃ p, A = some p ∧ cellsAt w p cs) :
  (Builtin.firstCells sz n (.slice A len cap)).run P w = .ok cs.toArray w := by
 cases A with
 | none =>
  have : n = 0 := by
   rcases Nat.eq_zero_or_pos n with h0 | h0
   ·exact h0
   ·obtain ⟨p, hp, _⟩ := h h0; cases hp
  subst this
  have : cs = [] := List.eq_nil_of_length_eq_zero (by simpa using hl)
  subst this
  simp[Builtin.firstCells]
 | some a =>
  refine run_firstCells_some w sz n a len cap cs hl (fun j v hj => ?_)
  rcases Nat.eq_zero_or_pos n with h0 | h0
  ·subst h0
   have : cs = [] := List.eq_nil_of_length_eq_zero (by simpa using hl)
   subst this
   simp at hj
  ·obtain ⟨p, hp, hc⟩ := h h0
   cases hp
   exact hc j v hj
theorem appC_run {P : Program} {t u ty e : TypeId} {i : TypeInfo} {z : Value} (ht : P.underlying t = some (.slice e)) (hi : P.info? e = some i) (hz : i.zero = some z)
  {A : Option Addr} {n c m : Nat} {new : List Value} {y : Value} {w : World} {K : Value → World → Prop} (hl : new.length = m * i.size)
  (hrun : ∀ w', Same w w' → (n + m ≤ c → (Builtin.append_ #[t, u] ty #[.slice A n c, y]).run P w' =
    ((match A with | some a => storeCells (a.add (n * i.size)) new | none => pure () : Sem Unit).run P w').andThen fun _ w'' => .ok (.slice A (n + m) c) w'') ∧
   (c < n + m → (n + m) * i.bytes ≤ 140737488355328 → n + m ≤ 9223372036854775807 → 0 < i.bytes → ∀ old : List Value, old.length = n * i.size → (0 < n → ∃ p, A = some p ∧ cellsAt w p old) →
    (Builtin.append_ #[t, u] ty #[.slice A n c, y]).run P w' = .ok (.slice (some ⟨w'.heap.size, 0, none⟩) (n + m) (grownCap w' (n + m) c e)) (w'.drew.alloc (.cells ((old ++ new).toArray ++ Builtin.zeroCells z.cells (grownCap w' (n + m) c e - (n + m))) e))))
  (h : appC e i.size i.bytes z.cells A n c m new w K) :
  ∃ v w', (Builtin.append_ #[t, u] ty #[.slice A n c, y]).run P w = .ok v w' ∧ K v w' := by
 obtain ⟨hroom, hgrow⟩ := h
 obtain ⟨h1, h2⟩ := hrun w rfl
 rcases Nat.lt_or_ge c (n + m) with hc | hc
 ·obtain ⟨old, hlo, hold, hby, hmax, hb0, hK⟩ := hgrow hc
  have hcap : n + m ≤ grownCap w (n + m) c e ∧ grownCap w (n + m) c e ≤ 9223372036854775807 := by
   unfold grownCap
   simp only[Question.cut]
   have hlt := Nat.mod_lt (w.tape w.drawn (.appendCap (n + m) c e)) (show 0 < 2 ^ 63 - (n + m) by omega)
   omega
  exact ⟨_, _, h2 hc hby hmax hb0 old hlo hold, hK _ hcap.1 hcap.2⟩
 ·have h1 := h1 hc
  rcases hroom hc with ⟨rfl, hK⟩ | ⟨b, o, rfl, hone, hcell, hfr, hK⟩
  ·have : new = [] := List.eq_nil_of_length_eq_zero (by simpa using hl)
   subst this
   refine ⟨_, _, ?_, hK⟩
   rw[h1]
   cases A <;> simp[storeCells]
  ·refine ⟨_, _, ?_, hK⟩
   rw[h1]
   have hst := run_storeCells_cells (P := P) b (o + n * i.size) new 0 w (by simpa using hcell) (by simpa using hfr) hone
   simp only[Nat.add_zero] at hst
   simp only[Addr.add_lit,hst,Result.andThen_ok]
theorem grow_facts {n m c bytes : Nat} (hc : c < n + m) (hby : (n + m) * bytes ≤ 140737488355328) (hmax : n + m ≤ 9223372036854775807) :
  ¬ (n + m ≤ c) ∧ ¬ (9223372036854775807 < ((n : Int) + (m : Int))) ∧ ¬ (281474976710656 < Builtin.nextslicecap (n + m) c * bytes) := by
 have := growslice_fits hc hby
 exact ⟨by omega, by omega, by omega⟩
theorem app_run {P : Program} {t u ty e : TypeId} {i : TypeInfo} {z : Value} {e' : TypeId} (ht : P.underlying t = some (.slice e)) (hu : P.underlying u = some (.slice e')) (hi : P.info? e = some i) (hz : i.zero = some z)
  {x y : Value} {w : World} {K : Value → World → Prop} (h : appK e i.size i.bytes z.cells x y w K) :
  ∃ v w', (Builtin.append_ #[t, u] ty #[x, y]).run P w = .ok v w' ∧ K v w' := by
 obtain ⟨A, n, c, rfl, h1⟩ := slK_elim h
 obtain ⟨B, m, d, rfl, new, hl, hnew, h⟩ := slK_elim h1
 refine appC_run ht hi hz hl (fun w' hw => ?_) h
 have hfn := first_run (P := P) (w := w') (len := m) (cap := d) hl (fun h0 => let ⟨p, hp, hc⟩ := hnew h0; ⟨p, hp, hw.cellsAt hc⟩)
 have hfn' := first_run (P := P) (w := w'.drew) (len := m) (cap := d) hl (fun h0 => let ⟨p, hp, hc⟩ := hnew h0; ⟨p, hp, Same.cellsAt (Eq.trans (Same.drew _) hw) hc⟩)
 constructor
 ·intro hc
  cases A <;> simp[Builtin.append_,run_underlying ht,run_underlying hu,sizeOf,typeInfo,hi,Builtin.lenOf,hc,hfn]
 ·intro hc hby hmax hb0 old hlo hold
  have hfo := first_run (P := P) (w := w'.drew) (len := n) (cap := c) hlo (fun h => let ⟨p, hp, hc⟩ := hold h; ⟨p, hp, Same.cellsAt (Eq.trans (Same.drew _) hw) hc⟩)
  obtain ⟨g1, g2, g3⟩ := grow_facts hc hby hmax
  simp[Builtin.append_,run_underlying ht,run_underlying hu,sizeOf,typeInfo,zeroValue,hi,hz,Builtin.lenOf,g1,g2,g3,Question.forced,hfo,hfn',newRow,grownCap]
  congr 2
  apply Array.ext'
  simp[List.append_assoc]
theorem apps_run {P : Program} {t u ty e : TypeId} {i : TypeInfo} {z : Value} (ht : P.underlying t = some (.slice e)) (hu : P.underlying u = some .string) (hi : P.info? e = some i) (hz : i.zero = some z) (hsz : i.size = 1)
  {x y : Value} {w : World} {K : Value → World → Prop} (h : appsK e i.bytes z.cells x y w K) :
  ∃ v w', (Builtin.append_ #[t, u] ty #[x, y]).run P w = .ok v w' ∧ K v w' := by
 obtain ⟨A, n, c, rfl, h1⟩ := slK_elim h
 obtain ⟨s, rfl, h⟩ := strK_elim h1
 have h : appC e i.size i.bytes z.cells A n c s.size (bytesL s) w K := by rw[hsz]; exact h
 have hx : (Array.map (fun b : UInt8 => Value.int IntKind.u8 (b.toNat : Int)) s.data).extract 0 s.size = (bytesL s).toArray := by
  have hs : s.size = (Array.map (fun b : UInt8 => Value.int IntKind.u8 (b.toNat : Int)) s.data).size := by rw[Array.size_map]; rfl
  rw[hs,Array.extract_size]
  apply Array.ext'
  simp[bytesL]
 refine appC_run ht hi hz (by simp[bytesL,hsz]) (fun w' hw => ?_) h
 constructor
 ·intro hc
  cases A <;> simp[Builtin.append_,run_underlying ht,run_underlying hu,sizeOf,typeInfo,hi,Builtin.lenOf,hc,Builtin.firstCells,hx]
 ·intro hc hby hmax hb0 old hlo hold
  have hfo := first_run (P := P) (w := w'.drew) (len := n) (cap := c) hlo (fun h => let ⟨p, hp, hc⟩ := hold h; ⟨p, hp, Same.cellsAt (Eq.trans (Same.drew _) hw) hc⟩)
  obtain ⟨g1, g2, g3⟩ := grow_facts hc hby hmax
  simp[Builtin.append_,run_underlying ht,run_underlying hu,sizeOf,typeInfo,zeroValue,hi,hz,Builtin.lenOf,g1,g2,g3,Question.forced,hfo,newRow,grownCap]
  rw[show Builtin.firstCells i.size s.size (.string s) = pure ((s.extract 0 s.size).data.map fun b => .int .u8 b.toNat) from rfl]
  simp[hx]
  congr 2
  apply Array.ext'
  simp[List.append_assoc,bytesL]
theorem appz_run {P : Program} {t u ty e : TypeId} {i : TypeInfo} {z : Value} {k' : IntKind} (ht : P.underlying t = some (.slice e)) (hu : P.underlying u = some (.int k')) (hi : P.info? e = some i) (hz : i.zero = some z)
  {x y : Value} {w : World} {K : Value → World → Prop} (h : appzK e i.size i.bytes z.cells x y w K) :
  ∃ v w', (Builtin.append_ #[t, u] ty #[x, y]).run P w = .ok v w' ∧ K v w' := by
 obtain ⟨A, n, c, rfl, h1⟩ := slK_elim h
 obtain ⟨k, l, rfl, h0, h1, h2, hzs, h⟩ := intK_elim h1
 have wl : IntKind.i64.wrap l = l := by rw[IntKind.wrap_i64]; omega
 have n1 : ¬ (l < 0) := by omega
 have n2 : ¬ (281474976710656 < l * (i.bytes : Int)) := by omega
 have hlen : (Builtin.zeroCells z.cells l.toNat).toList.length = l.toNat * i.size := by simp[Builtin.zeroCells,hzs]
 refine appC_run ht hi hz hlen (fun w' hw => ?_) h
 have hz0 : l.toNat * i.size = 0 → Builtin.zeroCells z.cells l.toNat = #[] := fun h => by
  apply Array.eq_empty_of_size_eq_zero
  simp[Builtin.zeroCells,hzs,h]
 constructor
 ·intro hc
  by_cases hq : l.toNat * i.size = 0
  ·have hz1 := hz0 hq
   cases A <;> simp[Builtin.append_,run_underlying ht,run_underlying hu,sizeOf,typeInfo,hi,asInt,asIntOf,wl,n1,n2,hc,hq,hz1]
  ·cases A <;> simp[Builtin.append_,run_underlying ht,run_underlying hu,sizeOf,typeInfo,hi,asInt,asIntOf,wl,n1,n2,hc,hq,zeroValue,hz]
 ·intro hc hby hmax hb0 old hlo hold
  have hfo := first_run (P := P) (w := w'.drew) (len := n) (cap := c) hlo (fun h => let ⟨p, hp, hc⟩ := hold h; ⟨p, hp, Same.cellsAt (Eq.trans (Same.drew _) hw) hc⟩)
  obtain ⟨g1, g2, g3⟩ := grow_facts hc hby hmax
  have g2' : ¬ (9223372036854775807 < (n : Int) + l) := by omega
  have g4 : max l 0 = l := by omega
  by_cases hq : l.toNat * i.size = 0
  ·have hz1 := hz0 hq
   simp[Builtin.append_,run_underlying ht,run_underlying hu,sizeOf,typeInfo,hi,asInt,asIntOf,wl,n1,n2,g1,g2',g3,g4,hq,hz1,Question.forced,hfo,newRow,grownCap,zeroValue,hz]
  ·simp[Builtin.append_,run_underlying ht,run_underlying hu,sizeOf,typeInfo,hi,asInt,asIntOf,wl,n1,n2,g1,g2',g3,g4,hq,Question.forced,hfo,newRow,grownCap,zeroValue,hz]
   congr 2
   apply Array.ext'
   simp[List.append_assoc]
theorem call_run {P : Program} {f : FuncId} {fn : Func} (hf : P.funcs[f]? = some fn) (h1 : (fn.name == "runtime.NumGoroutine") = false) (h2 : fn.body.isNone = false) (args : Array Value) (w : World) :
  (callFunc f args).run P w = .ok (.enter f args) w := by
 have h3 : ¬ (fn.name = "runtime.NumGoroutine") := by simpa using h1
 have h4 : ¬ (fn.body = none) := by intro h; rw[h] at h2; cases h2
 simp[callFunc,hf,h3,h4]
theorem exec_call {P : Program} {f : FuncId} {fn : Func} (hf : P.funcs[f]? = some fn) (h1 : (fn.name == "runtime.NumGoroutine") = false) (h2 : fn.body.isNone = false) (ρ : Env) (dst : Option Tmp) (args : Array Operand) (ats : Array TypeId) (ty : TypeId) (pos : String) (af : Array Edge) (gd : Option (Nat × Bool)) (w : World) :
  (execOp (ev ρ) ⟨dst, .call ⟨.value (.func f), args, ats⟩, ty, pos, af, gd⟩).run P w = .ok (.enter f (args.map (ev ρ))) w := by
 have := call_run hf h1 h2 (args.map (ev ρ)) w
 simp[execOp,resolve,Deferred.ofValue,ev,invoke,this]
theorem exec_built (ρ : Env) (dst : Option Tmp) (b : Builtin) (xs : Array Operand) (ats : Array TypeId) (ty : TypeId) (pos : String) (af : Array Edge) (gd : Option (Nat × Bool)) :
  execOp (ev ρ) ⟨dst, .call ⟨.builtin b, xs, ats⟩, ty, pos, af, gd⟩ = builtin b ats ty (xs.map fun | .const _ => true | _ => false) (xs.map (ev ρ)) := rfl
theorem i_sound {P : Program} {o : Oper} {i : I} (hi : strOp P o.op = some i) {ρ : Env} {w : World} {K : Value → World → Prop} (h : iW P i ρ w K) : runK P o (ev ρ) w K := by
 have ro : ∀ i, strOp P o.op = some i → rW i ρ w (fun v => K v w) → runK P o (ev ρ) w K := fun i hi h => by
  obtain ⟨v, hK, hr⟩ := r_sound hi h
  exact runK_value (hr w (fun _ => rfl)) hK
 obtain ⟨dst, op, ty, pos, af, gd⟩ := o
 have hi0 := hi
 simp only at hi
 cases op <;> simp only[strOp] at hi
 case load t a =>
  cases hk : tyk P t with
  | none => simp[hk] at hi
  | some k =>
   simp only[hk,Option.bind_some] at hi
   split at hi
   ·cases hi; exact ro _ hi0 h
   ·cases hi
 case store t a' x' =>
  split at hi
  ·rename_i hinfo
   cases hi
   obtain ⟨p, hp, h⟩ := ptrK_elim h
   obtain ⟨w', hr, hK⟩ := st_run hinfo h
   refine runK_skip ?_ hK
   simp[execOp,Instr.storeAt,Instr.sureAddr,hp,hr]
  ·cases hi
 case alloc t' =>
  simp only[Option.map_eq_some_iff] at hi
  obtain ⟨z', hz, hi⟩ := hi
  cases hi
  refine runK_value ?_ h
  have := zero_run hz w
  simp[execOp,Instr.alloc,this,newVar,newRow]
 case box t' x' =>
  cases hi
  refine runK_value ?_ h
  simp[execOp,Instr.box,newVar,newRow]
 case range t' x' =>
  split at hi
  ·rename_i hu
   cases hi
   obtain ⟨s, hx, hK⟩ := strK_elim h
   refine runK_value ?_ hK
   simp[execOp,Instr.range,hx,run_underlying hu]
  ·cases hi
 case next x' b =>
  split at hi
  ·rename_i hb
   have hb : b = true := by simpa using hb
   subst hb
   cases hi
   obtain ⟨p, hx, h0, s, pos, hh, h1, h2⟩ := ptrK_elim h
   obtain ⟨pb, po, ps⟩ := p
   have h0 : po = 0 := h0
   subst h0
   have hh : w.heap[pb]? = some (.stringIter s pos) := hh
   by_cases hlt : pos < s.size
   ·refine runK_value ?_ (h1 hlt)
    simp[execOp,Instr.next,hx,getObj,setObj,Sem.run,hh,hlt,goInt]
   ·refine runK_value ?_ (h2 (by omega))
    simp[execOp,Instr.next,hx,getObj,Sem.run,hh,hlt]
  ·cases hi
 case buildSlice t len parts =>
  split at hi
  ·rename_i e he
   split at hi
   ·rename_i z' hz
    have hinfo : (P.info? e).isSome = true := by unfold zeroOf at hz; cases hq : P.info? e <;> simp[hq] at hz ⊢
    have hs := size_of hinfo w
    have hzr := zero_run hz w
    split at hi
    ·rename_i hc
     simp only[Bool.and_eq_true,beq_iff_eq,List.isEmpty_iff] at hc
     obtain ⟨rfl, hc⟩ := hc
     cases hi
     have hp : parts = #[] := by rw[← Array.toList_inj]; simpa using hc
     subst hp
     refine runK_value ?_ h
     show (Instr.buildSlice t 0 ((#[] : Array (Nat × Operand)).map fun (x : Nat × Operand) => (x.1, ev ρ x.2)) >>= fun v => pure (Next.value v)).run P w = _
     simp only[Instr.buildSlice,Sem.run_bind,run_underlying he,Result.andThen_ok,hs,Nat.zero_mul]
     simp[Instr.fill,newRow,Array.range_zero']
    ·split at hi
     ·rename_i hc
      simp only[Bool.and_eq_true,Bool.not_eq_true',beq_eq_false_iff_ne,ne_eq,decide_eq_true_eq] at hc
      cases hi
      obtain ⟨cs, hcs, hK⟩ := h
      refine runK_value ?_ hK
      have hfill : Instr.fill (fun i => some (i * P.cellsOf e, P.cellsOf e)) ((Array.range (len * P.cellsOf e)).map (z'.cells[· % z'.cells.size]!)) ((parts.map fun (x : Nat × Operand) => (x.1, ev ρ x.2)).toList) = some cs := by
       simpa [fillS] using hcs
      show (Instr.buildSlice t len (parts.map fun (x : Nat × Operand) => (x.1, ev ρ x.2)) >>= fun v => pure (Next.value v)).run P w = _
      have h24 : ¬ (len * P.cellsOf e > 2 ^ 24) := by omega
      simp only[Instr.buildSlice,Sem.run_bind,run_underlying he,Result.andThen_ok,hs,if_neg h24,if_neg hc.1,hzr,Sem.run_pure,hfill]
      simp[newRow]
     ·cases hi
   ·cases hi
  ·cases hi
 case makeSlice t l' c' =>
  split at hi
  ·rename_i e he
   split at hi
   ·rename_i i hinfo
    simp only[Option.map_eq_some_iff] at hi
    obtain ⟨z', hz, hi⟩ := hi
    cases hi
    obtain ⟨kl, l, hl, h⟩ := intK_elim h
    obtain ⟨kc, c, hc, h0, hlc, hb, h63, hK⟩ := intK_elim h
    refine runK_value ?_ hK
    have hr := run_make (P := P) w t e i z' he hinfo hz kl kc l c h0 hlc hb h63
    simp[execOp,hl,hc,hr]
   ·cases hi
  ·cases hi
 case convert s d x =>
  split at hi
  ·rename_i hs
   split at hi
   ·cases hi; exact ro _ hi0 h
   ·split at hi
    ·cases hi; exact ro _ hi0 h
    ·split at hi
     ·cases hi; exact ro _ hi0 h
     ·cases hi
    ·cases hi
   ·split at hi
    ·rename_i hsd
     have hsd : s = d := by simpa using hsd
     subst hsd
     split at hi
     ·rename_i e he
      split at hi
      ·rename_i he8
       cases hi
       obtain ⟨A, n, c, hv, a, rfl, hK⟩ := slK_elim h
       refine runK_value ?_ hK
       have : (convert s s (.slice (some a) n c)).run P w = .ok (.slice (some a) n c) (markW w a) := by
        cases hsh : w.shape? a.block with
        | none => simp[convert,run_underlying he,run_underlying he8,markStringish,markW,hsh]
        | some q => obtain ⟨t, m⟩ := q; simp[convert,run_underlying he,run_underlying he8,markStringish,markW,hsh]
       simp[execOp,hv,this]
      ·cases hi
     ·cases hi
    ·cases hi
   ·cases hi
  ·cases hi
 case call c =>
  obtain ⟨callee, args', ats⟩ := c
  cases callee <;> try simp only at hi
  case invoke => cases hi
  case value g =>
   cases g <;> try simp only at hi
   case func g =>
    split at hi
    ·rename_i fn hfn
     split at hi
     ·cases hi
     ·rename_i hne
      simp only[Bool.or_eq_true,not_or,Bool.not_eq_true,Option.isNone_eq_false_iff] at hne
      cases hi
      have hb : fn.body.isNone = false := by simpa using hne.2
      have hr := exec_call hfn hne.1 hb ρ dst args' ats ty pos af gd w
      unfold runK
      rw[hr]
      have h2 : callK P g (args'.toList.map (ev ρ)) w K := h
      simpa using h2
    ·cases hi
   all_goals cases hi
  case builtin b =>
   cases b <;> try simp only at hi
   case append =>
    split at hi
    ·rename_i x y t u hx ht
     have hx' : args' = #[x, y] := by rw[← hx]
     have ht' : ats = #[t, u] := by rw[← ht]
     subst hx'; subst ht'
     have hex : (execOp (ev ρ) ⟨dst, .call ⟨.builtin .append, #[x, y], #[t, u]⟩, ty, pos, af, gd⟩) = (Builtin.append_ #[t, u] ty #[ev ρ x, ev ρ y] >>= fun v => pure (Next.value v)) := by
      rw[exec_built]
      simp[builtin]
     have fin : ∀ v w', (Builtin.append_ #[t, u] ty #[ev ρ x, ev ρ y]).run P w = .ok v w' → K v w' → runK P ⟨dst, .call ⟨.builtin .append, #[x, y], #[t, u]⟩, ty, pos, af, gd⟩ (ev ρ) w K := by
      intro v w' hr hK
      refine runK_value ?_ hK
      rw[hex,Sem.run_bind,hr]
      rfl
     split at hi
     ·rename_i e1 e2 he1 he2
      split at hi
      ·rename_i inf hinf
       split at hi
       ·cases hi
       ·simp only[Option.map_eq_some_iff] at hi
        obtain ⟨z', hz, hi⟩ := hi
        cases hi
        obtain ⟨v, w', hr, hK⟩ := app_run (ty := ty) he1 he2 hinf hz h
        exact fin v w' hr hK
      ·cases hi
     ·rename_i e1 e2 he1 he2
      split at hi
      ·rename_i inf hinf
       split at hi
       ·cases hi
       ·simp only[Option.map_eq_some_iff] at hi
        obtain ⟨z', hz, hi⟩ := hi
        cases hi
        obtain ⟨v, w', hr, hK⟩ := appz_run (ty := ty) he1 he2 hinf hz h
        exact fin v w' hr hK
      ·cases hi
     ·rename_i e1 he1 he2
      split at hi
      ·rename_i inf hinf
       split at hi
       ·rename_i hsz
        simp only[Option.map_eq_some_iff] at hi
        obtain ⟨z', hz, hi⟩ := hi
        cases hi
        obtain ⟨v, w', hr, hK⟩ := apps_run (ty := ty) he1 he2 hinf hz (by simpa using hsz) h
        exact fin v w' hr hK
       ·cases hi
      ·cases hi
     ·cases hi
    ·cases hi
   case copy =>
    split at hi
    ·rename_i x y t u hx ht
     split at hi
     ·rename_i e1 e2 he1 he2
      split at hi
      ·rename_i hinf
       cases hi
       have hx' : args' = #[x, y] := by rw[← hx]
       have ht' : ats = #[t, u] := by rw[← ht]
       subst hx'; subst ht'
       simp only[iW] at h
       split at h
       ·rename_i A n c1 B m c2 hA hB
        obtain ⟨new, hl, hpos, hzero⟩ := h
        have hs := size_of hinf w
        have : (execOp (ev ρ) ⟨dst, .call ⟨.builtin .copy, #[x, y], #[t, u]⟩, ty, pos, af, gd⟩) = (Builtin.copy_ #[t, u] ty #[ev ρ x, ev ρ y] >>= fun v => pure (Next.value v)) := by
         rw[exec_built]
         simp[builtin]
        rcases Nat.eq_zero_or_pos (Nat.min m n) with h0 | h0
        ·have hK := hzero h0
         refine runK_value ?_ hK
         have hf := first_run (P := P) (sz := P.cellsOf e1) (n := Nat.min m n) (len := m) (cap := c2) (A := B) (cs := []) (w := w) (by simp[h0]) (by omega)
         rw[this,Sem.run_bind,hA,hB]
         have hr : (Builtin.copy_ #[t, u] ty #[.slice A n c1, .slice B m c2]).run P w = .ok (.int .i64 0) w := by
          rw[h0] at hf
          cases A <;> simp[Builtin.copy_,run_underlying he1,Builtin.lenOf,hs,hf,goInt,storeCells,h0]
         rw[hr]; rfl
        ·obtain ⟨p, b, o, rfl, hc, rfl, h1, hcell, hfr, hK⟩ := hpos h0
         refine runK_value ?_ hK
         have hf := first_run (P := P) (sz := P.cellsOf e1) (n := Nat.min m n) (len := m) (cap := c2) (A := some p) (cs := new) (w := w) hl (fun _ => ⟨p, rfl, hc⟩)
         have hst := run_storeCells_cells (P := P) b o new 0 w (by simpa using hcell) (by simpa using hfr) h1
         simp only[Nat.add_zero] at hst
         rw[this,Sem.run_bind,hA,hB]
         have hr : (Builtin.copy_ #[t, u] ty #[.slice (some ⟨b, o, none⟩) n c1, .slice (some p) m c2]).run P w = .ok (.int .i64 ((Nat.min m n : Nat) : Int)) (w.setCells b o new) := by
          simp[Builtin.copy_,run_underlying he1,Builtin.lenOf,hs,hf,goInt,hst]
         rw[hr]; rfl
       ·exact h.elim
      ·cases hi
     ·cases hi
    ·cases hi
   all_goals ((repeat' split at hi) <;> first | (cases hi; done) | (cases hi; exact ro _ hi0 h))
 all_goals ((repeat' split at hi) <;> first | (cases hi; done) | (cases hi; exact ro _ hi0 h))
theorem q_sound {P : Program} {o : Oper} {i : I} (hi : strOp P o.op = some i) {a : Act} {ρ : Env} (ha : a.eval = ev ρ) {w : World} {K : Value → Prop} (h : qW P i ρ w K) :
  ∃ v, (∀ w', (∃ n, w' = w.drewN n) → o.quietAt P a (fun w' => ∃ n, w' = w.drewN n) w' v) ∧ K v := by
 have ro : ∀ i, strOp P o.op = some i → rW i ρ w K → ∃ v, (∀ w', (∃ n, w' = w.drewN n) → o.quietAt P a (fun w' => ∃ n, w' = w.drewN n) w' v) ∧ K v := fun i hi h => by
  obtain ⟨v, hK, hr⟩ := r_sound hi h
  refine ⟨v, fun w' hw' => ?_, hK⟩
  obtain ⟨n, rfl⟩ := hw'
  unfold Oper.quietAt
  rw[ha, hr (w.drewN n) (fun _ => rfl)]
  exact ⟨rfl, rfl⟩
 cases i
 case call f args =>
  obtain ⟨dst, op, ty, pos, af, gd⟩ := o
  obtain ⟨v, hc, hK⟩ := h
  refine ⟨v, fun w' hw' => ?_, hK⟩
  obtain ⟨n, rfl⟩ := hw'
  have := i_sound (P := P) (o := ⟨dst, op, ty, pos, af, gd⟩) hi (ρ := ρ) (w := w.drewN n) (K := fun v' w' => v' = v ∧ ∃ m, w' = w.drewN m) (hc n)
  simp only at hi
  cases op <;> simp only[strOp] at hi <;> try (first | (cases hi; done) | (exfalso; (repeat' split at hi) <;> first | (cases hi; done) | (simp only[Option.map_eq_some_iff] at hi; obtain ⟨_, _, hi⟩ := hi; cases hi; done)))
  case load =>
   exfalso
   rename_i t a'
   cases hk : tyk P t with
   | none => simp[hk] at hi
   | some k => simp only[hk,Option.bind_some] at hi; split at hi <;> cases hi
  case call c =>
   obtain ⟨callee, args', ats⟩ := c
   cases callee <;> try simp only at hi
   case invoke => cases hi
   case value g =>
    cases g <;> try simp only at hi
    case func g =>
     split at hi
     ·rename_i fn hfn
      split at hi
      ·cases hi
      ·rename_i hne
       simp only[Bool.or_eq_true,not_or,Bool.not_eq_true,Option.isNone_eq_false_iff] at hne
       cases hi
       have hb : fn.body.isNone = false := by simpa using hne.2
       have hr := exec_call hfn hne.1 hb ρ dst args' ats ty pos af gd (w.drewN n)
       unfold Oper.quietAt
       rw[ha,hr]
       refine ⟨rfl, ?_⟩
       have h2 := hc n
       unfold callK at h2
       simp only[List.map_toArray,Array.toArray_toList,← Array.toList_map] at h2
       exact h2.mono fun e w'' ⟨v', he, hv', hw''⟩ => ⟨by rw[he,hv'], hw''⟩
     ·cases hi
    all_goals cases hi
   case builtin b =>
    exfalso
    cases b <;> (try simp only at hi) <;> try (first | (cases hi; done) | ((repeat' split at hi) <;> first | (cases hi; done) | (simp only[Option.map_eq_some_iff] at hi; obtain ⟨_, _, hi⟩ := hi; cases hi; done)))
 all_goals exact ro _ hi h
end Go.Proofs.YtcgplgpdcfocpaaGreatDoor.Eng
end
section
namespace Go.Proofs.YtcgplgpdcfocpaaGreatDoor.Eng
open Go Go.RowKit
structure O where
 dst : Option Nat
 g : Option (Nat × Bool)
 i : I
inductive Scr where
 | nil
 | st (k i : Nat) (r : Scr)
 | one (i : Nat) (r : Scr)
 | more (i : Nat) (r c : Scr)
 | cov (c : Scr)
inductive S where
 | ops (l : List O)
 | draw (n : Nat) (l : List O)
 | drawS (s : List (Nat × Nat)) (l : List O)
 | drawT (t : Scr) (l : List O)
 | skip
 | ret
 | exit (id : Nat)
 | seq (a b : S)
 | join (a b : S)
 | cond (c : Operand) (a b : S)
 | block (id : Nat) (b : S)
 | loop (b : S)
def Scr.depth : Scr → Nat
 | .nil => 0
 | .st _ _ r => r.depth + 1
 | .one _ r => r.depth + 1
 | .more _ r _ => r.depth + 1
 | .cov c => c.depth
def Scr.heads : Scr → List Nat
 | .one i _ => [i]
 | .more i _ c => i :: c.heads
 | _ => []
def Scr.proper : Scr → Bool
 | .one .. => false
 | .more .. => false
 | _ => true
def Scr.louds : Scr → List Nat
 | .nil => []
 | .st _ _ r => r.louds
 | .one i r => i :: r.louds
 | .more i r c => i :: (r.louds ++ c.louds)
 | .cov c => c.louds
def Scr.ends : Scr → Nat
 | .nil => 1
 | .st _ _ r => r.ends
 | .one _ r => r.ends
 | .more _ r c => r.ends + c.ends
 | .cov c => c.ends
def gv (ρ : Env) (g : Option (Nat × Bool)) : Bool :=
 match g with
 | none => true
 | some (d, b) => (match ρ d with
  | .bool c => c == b
  | _ => false)
def gK (b : Bool) (A B : Prop) : Prop := if b = true then A else B
def opsW (P : Program) : List O → (Env → World → Prop) → Env → World → Prop
 | [], K, ρ, w => K ρ w
 | o :: r, K, ρ, w => gK (gv ρ o.g) (iW P o.i ρ w fun v w' => opsW P r K (updO ρ o.dst v) w') (opsW P r K (updO ρ o.dst undef) w)
def qopsW (P : Program) (w : World) : List O → (Env → Prop) → Env → Prop
 | [], K, ρ => K ρ
 | o :: r, K, ρ => gK (gv ρ o.g) (qW P o.i ρ w fun v => qopsW P w r K (updO ρ o.dst v)) (qopsW P w r K (updO ρ o.dst undef))
def scrW (P : Program) (l : List O) : List (Nat × Nat) → (Env → World → Prop) → Env → World → Prop
 | [], K, ρ, w => ∀ m, K ρ (w.drewN m)
 | (k, i) :: r, K, ρ, w => match l[i]? with
  | none => False
  | some o => match k with
   | 0 => gK (gv ρ o.g) (rW o.i ρ w fun v => scrW P l r K (updO ρ o.dst v) w) (scrW P l r K (updO ρ o.dst undef) w)
   | 1 => gK (gv ρ o.g) (qW P o.i ρ w fun v => scrW P l r K (updO ρ o.dst v) w) (scrW P l r K (updO ρ o.dst undef) w)
   | _ => ∀ m, gK (gv ρ o.g) (iW P o.i ρ (w.drewN m) fun v w' => scrW P l r K (updO ρ o.dst v) w') (scrW P l r K (updO ρ o.dst undef) (w.drewN m))
def allC : List (TyK × Addr × Value) → World → Prop
 | [], _ => True
 | (k, p, v) :: r, w => ldK w k p (fun v' => v' = v) ∧ allC r w
def fltK (i : I) (ρ : Env) (w : World) (K : TyK → Addr → Value → Prop) : Prop :=
 match i with
 | .ld k a => ptrK (ev ρ a) fun p => ldK w k p fun v => K k p v
 | _ => False
def scrT (P : Program) (l : List O) : Scr → List (TyK × Addr × Value) → (Env → World → Prop) → Env → World → Prop
 | .nil, cs, K, ρ, w => ∀ m, K ρ (w.drewN m)
 | .st k i r, cs, K, ρ, w => (match l[i]? with
  | none => False
  | some o => (match k with
   | 0 => gK (gv ρ o.g) (rW o.i ρ w fun v => scrT P l r cs K (updO ρ o.dst v) w) (scrT P l r cs K (updO ρ o.dst undef) w)
   | 1 => gK (gv ρ o.g) (qW P o.i ρ w fun v => scrT P l r cs K (updO ρ o.dst v) w) (scrT P l r cs K (updO ρ o.dst undef) w)
   | _ => gK (gv ρ o.g) (fltK o.i ρ w fun k p v => scrT P l r ((k, p, v) :: cs) K (updO ρ o.dst v) w) (scrT P l r cs K (updO ρ o.dst undef) w)))
 | .one i r, cs, K, ρ, w => (match l[i]? with
  | none => False
  | some o => ∀ m, gK (gv ρ o.g) (iW P o.i ρ (w.drewN m) fun v w' => allC cs w' ∧ scrT P l r cs K (updO ρ o.dst v) w') (allC cs (w.drewN m) ∧ scrT P l r cs K (updO ρ o.dst undef) (w.drewN m)))
 | .more i r c, cs, K, ρ, w => (match l[i]? with
  | none => False
  | some o => ∀ m, gK (gv ρ o.g) (iW P o.i ρ (w.drewN m) fun v w' => allC cs w' ∧ scrT P l r cs K (updO ρ o.dst v) w') (allC cs (w.drewN m) ∧ scrT P l r cs K (updO ρ o.dst undef) (w.drewN m))) ∧ scrT P l c cs K ρ w
 | .cov c, cs, K, ρ, w => scrT P l c cs K ρ w
def seqK (N : Env → World → Prop) (K : Exit → Env → World → Prop) : Exit → Env → World → Prop
 | .normal, ρ, w => N ρ w
 | e, ρ, w => K e ρ w
def blkK (id : Nat) (K : Exit → Env → World → Prop) : Exit → Env → World → Prop
 | .exit j, ρ, w => if j = id then K .normal ρ w else K (.exit j) ρ w
 | e, ρ, w => K e ρ w
def loopN (B : (Exit → Env → World → Prop) → Env → World → Prop) (K : Exit → Env → World → Prop) : Nat → Env → World → Prop
 | 0, _, _ => False
 | m + 1, ρ, w => B (seqK (loopN B K m) K) ρ w
def S.W (P : Program) : S → (Exit → Env → World → Prop) → Env → World → Prop
 | .ops l, K, ρ, w => opsW P l (K .normal) ρ w
 | .draw n l, K, ρ, w => qopsW P w (l.take n) (fun ρ' => ∀ m, opsW P (l.drop n) (K .normal) ρ' (w.drewN m)) ρ
 | .drawS s l, K, ρ, w => scrW P l s (K .normal) ρ w.drew
 | .drawT t l, K, ρ, w => scrT P l t [] (K .normal) ρ w.drew
 | .skip, K, ρ, w => K .normal ρ w
 | .ret, K, ρ, w => K .ret ρ w
 | .exit id, K, ρ, w => K (.exit id) ρ w
 | .seq a b, K, ρ, w => a.W P (seqK (b.W P K) K) ρ w
 | .join a b, K, ρ, w => a.W P (seqK (b.W P K) K) ρ w
 | .cond c a b, K, ρ, w => boolK (ev ρ c) fun t => if t = true then a.W P K ρ w else b.W P K ρ w
 | .block id b, K, ρ, w => b.W P (blkK id K) ρ w
 | .loop b, K, ρ, w => ∃ m, loopN (b.W P) K m ρ w
def outs : S → Nat → Nat
 | .exit j, id => if j = id then 1 else 0
 | .seq a b, id => outs a id + outs b id
 | .join a b, id => outs a id + outs b id
 | .cond _ a b, id => outs a id + outs b id
 | .block _ b, id => outs b id
 | .loop b, id => outs b id
 | _, _ => 0
def falls : S → Nat
 | .ret => 0
 | .exit _ => 0
 | .seq a b => if falls a = 0 then 0 else falls b
 | .join a b => if falls a = 0 then 0 else falls b
 | .cond _ a b => falls a + falls b
 | .block id b => falls b + outs b id
 | .loop _ => 0
 | .drawT t _ => t.ends
 | _ => 1
def dstOk (n : Nat) : Option Nat → Bool
 | some d => decide (d < n)
 | none => true
def rawOf : Op → I
 | .makeFunc (.func f) a b => .raw (.makeFunc (.func f) a b)
 | .call c => (match c.callee with
  | .value _ => .raw (.call c)
  | _ => .no)
 | _ => .no
theorem rawOf_cases (op : Op) : rawOf op = .no ∨ rawOf op = .raw op := by
 cases op <;> first | exact .inl rfl | skip
 case makeFunc fn a b => cases fn <;> first | exact .inl rfl | exact .inr rfl
 case call c =>
  obtain ⟨callee, args, ts⟩ := c
  cases callee <;> first | exact .inl rfl | exact .inr rfl
def strO (P : Program) (ops : Array Oper) (n : Nat) (o : Oper) : Option O :=
 let i := (strOp P o.op).getD (rawOf o.op)
 if dstOk n o.dst = true then
  match o.guard with
  | none => some ⟨o.dst, none, i⟩
  | some (j, b) => (match (ops[j]?).bind (·.dst) with
   | some d => some ⟨o.dst, some (d, b), i⟩
   | none => none)
 else none
def strL (P : Program) (ops : Array Oper) (n : Nat) : List Oper → Option (List O)
 | [] => some []
 | o :: r => (match strO P ops n o, strL P ops n r with
  | some x, some l => some (x :: l)
  | _, _ => none)
def loud : I → Bool
 | .st .. | .alloc .. | .box .. | .bsl .. | .mks .. | .app .. | .apps .. | .appz .. | .bsl0 .. | .cvid .. | .cpy .. | .rgs .. | .nxs .. | .raw .. => true
 | _ => false
def headOf (_id : Nat) (l : List O) : Nat := l.findIdx (fun o => loud o.i)
def drawOk (P : Program) (ops : Array Oper) (k m : Nat) : Bool :=
 P.follows .mixedOrders && (if k < m then Region.lexTailB .any ops k else Region.lexB .any ops)
def scrOk (ops : Array Oper) (D : List Nat) (ls : List O) : List (Nat × Nat) → Array Bool → Bool
 | [], listed => (Region.ready .any ops listed).isEmpty
 | (k, i) :: r, listed => (Region.ready .any ops listed).contains i && scrOk ops D ls r (listed.setIfInBounds i true) &&
  (match k with
   | 0 => !D.contains i && Region.free .any ops listed i && (match ls[i]? with | some o => !ldB o.i | none => false)
   | 1 => !D.contains i && Region.free .any ops listed i && D.all (fun d => listed.getD d true || reach .any ops i ops.size d)
   | _ => D.contains i && decide (Region.ready .any ops listed = [i]))
def loudOf (s : List (Nat × Nat)) : List Nat := (s.filter (fun p => decide (2 ≤ p.1))).map (·.2)
def scriptOk (P : Program) (ops : Array Oper) (ls : List O) (s : List (Nat × Nat)) : Bool :=
 P.follows .mixedOrders && Region.noSelect ops && decide (s.length = ops.size) && scrOk ops (loudOf s) ls s (Array.replicate ops.size false)
def scrOkT (ops : Array Oper) (D : List Nat) (ls : List O) : Scr → Array Bool → Bool
 | .nil, listed => (Region.ready .any ops listed).isEmpty
 | .st k i r, listed => (Region.ready .any ops listed).contains i && r.proper && scrOkT ops D ls r (listed.setIfInBounds i true) &&
  (match k with
   | 0 => !D.contains i && Region.free .any ops listed i && (match ls[i]? with | some o => !ldB o.i | none => false)
   | 1 => !D.contains i && Region.free .any ops listed i && D.all (fun d => listed.getD d true || reach .any ops i ops.size d)
   | _ => !D.contains i && Region.free .any ops listed i)
 | .one i r, listed => D.contains i && (Region.ready .any ops listed).contains i && r.proper && scrOkT ops D ls r (listed.setIfInBounds i true)
 | .more i r c, listed => D.contains i && (Region.ready .any ops listed).contains i && r.proper && scrOkT ops D ls r (listed.setIfInBounds i true) && !c.proper && decide (c.depth = r.depth + 1) && scrOkT ops D ls c listed
 | .cov c, listed => !c.proper && !(Region.ready .any ops listed).isEmpty && (Region.ready .any ops listed).all (fun i => c.heads.contains i) && scrOkT ops D ls c listed
def scriptOkT (P : Program) (ops : Array Oper) (ls : List O) (t : Scr) : Bool :=
 P.follows .mixedOrders && Region.noSelect ops && decide (t.depth = ops.size) && t.proper && scrOkT ops t.louds ls t (Array.replicate ops.size false)
abbrev Sc := List (Nat × Nat) ⊕ Scr
def strS (P : Program) (n : Nat) (dn : List (Nat × Sc)) : Code → Option S
 | .skip => some .skip
 | .ret => some .ret
 | .exit id => some (.exit id)
 | .seq a b => (match strS P n dn a, strS P n dn b with
  | some x, some y => if 2 ≤ falls x then some (.join x y) else some (.seq x y)
  | _, _ => none)
 | .cond c a b => (match strS P n dn a, strS P n dn b with
  | some x, some y => some (.cond c x y)
  | _, _ => none)
 | .block id b => (strS P n dn b).map (.block id)
 | .loop b => (strS P n dn b).map .loop
 | .region id ops draw => (match strL P ops n ops.toList with
  | none => none
  | some l =>
   if draw then
    match dn.find? (fun p => p.1 == id) with
    | some (_, .inl s) => if scriptOk P ops l s = true then some (.drawS s l) else none
    | some (_, .inr t) => if scriptOkT P ops l t = true then some (.drawT t l) else none
    | none => if drawOk P ops (headOf id l) l.length = true then some (.draw (headOf id l) l) else none
   else some (.ops l))
 | _ => none
def envOf (a : Act) : Env := fun t => a.tmps.getD t undef
theorem eval_env (a : Act) : a.eval = ev (envOf a) := by funext x; cases x <;> rfl
theorem env_put {a : Act} {d : Nat} (h : d < a.tmps.size) (v : Value) : envOf (a.put (some d) v) = upd (envOf a) d v := by
 funext t
 simp only[envOf,Act.put,upd]
 by_cases ht : t = d
 ·subst ht
  simp[h]
 ·rw[if_neg ht]
  simp only[Array.getD_eq_getD_getElem?]
  rw[Array.getElem?_setIfInBounds_ne (Ne.symm ht)]
theorem env_putO {a : Act} {n : Nat} (hn : a.tmps.size = n) {d : Option Nat} (h : dstOk n d = true) (v : Value) : envOf (a.put d v) = updO (envOf a) d v := by
 cases d with
 | none => rfl
 | some d => exact env_put (by subst hn; simpa [dstOk] using h) v
theorem put_size (a : Act) (d : Option Nat) (v : Value) : (a.put d v).tmps.size = a.tmps.size := by cases d <;> simp[Act.put]
theorem put_defers (a : Act) (d : Option Nat) (v : Value) : (a.put d v).defers = a.defers := by cases d <;> rfl
theorem strO_spec {P : Program} {ops : Array Oper} {n : Nat} {o : Oper} {x : O} (h : strO P ops n o = some x) :
  x.i = (strOp P o.op).getD (rawOf o.op) ∧ x.dst = o.dst ∧ dstOk n o.dst = true ∧
   ∀ a : Act, Region.wanted o (yielded ops a.tmps) = gv (envOf a) x.g := by
 unfold strO at h
 simp only at h
 split at h
 ·rename_i hd
  split at h
  ·rename_i hg
   cases h
   exact ⟨rfl, rfl, hd, fun a => by simp[Region.wanted,hg,gv]⟩
  ·rename_i j b hg
   split at h
   ·rename_i d hdd
    cases h
    refine ⟨rfl, rfl, hd, fun a => ?_⟩
    simp only[Region.wanted,hg,gv,yielded,hdd,Option.bind_some,envOf]
    cases hv : a.tmps[d]? with
    | none =>
     have : a.tmps.getD d undef = undef := by simp[Array.getD_eq_getD_getElem?,hv]
     rw[this]
     simp[undef]
    | some v =>
     have : a.tmps.getD d undef = v := by simp[Array.getD_eq_getD_getElem?,hv]
     rw[this]
     cases v <;> simp
   ·cases h
 ·cases h
theorem i_sound' {P : Program} {o : Oper} {i : I} (hi : i = (strOp P o.op).getD (rawOf o.op)) {ρ : Env} {w : World} {K : Value → World → Prop} (h : iW P i ρ w K) : runK P o (ev ρ) w K := by
 cases hs : strOp P o.op with
 | none =>
  rw[hs] at hi; subst hi
  rcases rawOf_cases o.op with e | e
  ·rw[Option.getD_none,e] at h; exact h.elim
  ·rw[Option.getD_none,e] at h; exact h o rfl
 | some j => rw[hs] at hi; subst hi; exact i_sound hs h
theorem q_sound' {P : Program} {o : Oper} {i : I} (hi : i = (strOp P o.op).getD (rawOf o.op)) {a : Act} {ρ : Env} (ha : a.eval = ev ρ) {w : World} {K : Value → Prop} (h : qW P i ρ w K) :
  ∃ v, (∀ w', (∃ n, w' = w.drewN n) → o.quietAt P a (fun w' => ∃ n, w' = w.drewN n) w' v) ∧ K v := by
 cases hs : strOp P o.op with
 | none =>
  rw[hs] at hi; subst hi
  rcases rawOf_cases o.op with e | e
  ·rw[Option.getD_none,e] at h; exact h.elim
  ·rw[Option.getD_none,e] at h; exact h.elim
 | some j => rw[hs] at hi; subst hi; exact q_sound hs ha h
theorem r_sound' {P : Program} {o : Oper} {i : I} (hi : i = (strOp P o.op).getD (rawOf o.op)) {ρ : Env} {w : World} {K : Value → Prop} (hld : ldB i = false) (h : rW i ρ w K) :
  ∃ v, K v ∧ ∀ w', (execOp (ev ρ) o).run P w' = .ok (.value v) w' := by
 cases hs : strOp P o.op with
 | none =>
  rw[hs] at hi; subst hi
  rcases rawOf_cases o.op with e | e
  ·rw[Option.getD_none,e] at h; exact h.elim
  ·rw[Option.getD_none,e] at h; exact h.elim
 | some j =>
  rw[hs] at hi; subst hi
  obtain ⟨v, hK, hr⟩ := r_sound hs h
  exact ⟨v, hK, fun w' => hr w' (fun e => by rw[hld] at e; cases e)⟩
theorem oper_wp {P : Program} {o : Oper} {a : Act} {w : World} {K : Value → World → Prop} {K' : Act → World → Prop} {Q : Exit → Act → World → Prop} (h : runK P o a.eval w K) (hK : ∀ v w', K v w' → K' (a.put o.dst v) w') : o.wp P a w K' Q := by
 unfold runK at h
 unfold Oper.wp
 generalize (execOp a.eval o).run P w = r at *
 cases r with
 | halt x w' => exact h.elim
 | ok x w' =>
  cases x <;> first | exact h.elim | skip
  case value v => exact hK _ _ h
  case skip => exact hK _ _ h
  case enter f args =>
   rw[Oper.upon_enter]
   simp only[callK,Array.toArray_toList] at h
   exact h.mono fun e w'' ⟨v, he, hv⟩ => by subst he; exact hK _ _ hv
theorem ops_sound {P : Program} {ops : Array Oper} {n : Nat} {Q : Exit → Act → World → Prop} {dfs : List Deferred} {K : Env → World → Prop} (hQ : ∀ a w, a.tmps.size = n → a.defers = dfs → K (envOf a) w → Q .normal a w) :
  ∀ (l : List Oper) (l' : List O), strL P ops n l = some l' → ∀ (a : Act) (w : World), a.tmps.size = n → a.defers = dfs → opsW P l' K (envOf a) w → wpList P ops Q l a w
 | [], l', hl, a, w, hs, hd, h => by
  simp only[strL,Option.some.injEq] at hl
  subst hl
  exact hQ a w hs hd h
 | o :: r, l', hl, a, w, hs, hd, h => by
  simp only[strL] at hl
  split at hl
  ·rename_i x t hx ht
   cases hl
   obtain ⟨hi, hdst, hlt, hg⟩ := strO_spec hx
   simp only[opsW,gK,← hg a] at h
   refine wpList_step fun K' hK' => ?_
   split at h
   ·rename_i hw
    rw[if_pos hw]
    refine oper_wp (K := fun v w' => opsW P t K (updO (envOf a) x.dst v) w') (by rw[eval_env]; exact i_sound' hi h) (fun v w' hv => hK' _ _ ?_)
    refine ops_sound hQ r t ht _ _ (by rw[put_size]; exact hs) (by rw[put_defers]; exact hd) ?_
    rw[env_putO hs hlt,← hdst]; exact hv
   ·rename_i hw
    rw[if_neg hw]
    refine hK' _ _ ?_
    refine ops_sound hQ r t ht _ _ (by rw[put_size]; exact hs) (by rw[put_defers]; exact hd) ?_
    rw[env_putO hs hlt,← hdst]; exact h
  ·cases hl
theorem strL_take {P : Program} {ops : Array Oper} {n : Nat} : ∀ (l : List Oper) (l' : List O), strL P ops n l = some l' → l'.length = l.length ∧ ∀ k, strL P ops n (l.take k) = some (l'.take k) ∧ strL P ops n (l.drop k) = some (l'.drop k)
 | [], l', hl => by
  simp only[strL,Option.some.injEq] at hl
  subst hl
  exact ⟨rfl, fun k => by simp[strL]⟩
 | o :: r, l', hl => by
  simp only[strL] at hl
  split at hl
  ·rename_i x t hx ht
   cases hl
   obtain ⟨h1, h2⟩ := strL_take r t ht
   refine ⟨by simp[h1], fun k => ?_⟩
   cases k with
   | zero => simp[strL,hx,ht]
   | succ k => simp[strL,hx,(h2 k).1,(h2 k).2]
  ·cases hl
theorem qops_sound {P : Program} {ops : Array Oper} {n : Nat} {dfs : List Deferred} {w : World} {K : Env → Prop} {Q : Act → Prop} (hQ : ∀ a, a.tmps.size = n → a.defers = dfs → K (envOf a) → Q a) :
  ∀ (l : List Oper) (l' : List O), strL P ops n l = some l' → ∀ (a : Act), a.tmps.size = n → a.defers = dfs → qopsW P w l' K (envOf a) → wpQuiet P ops (fun w' => ∃ m, w' = w.drewN m) Q l a
 | [], l', hl, a, hs, hd, h => by
  simp only[strL,Option.some.injEq] at hl
  subst hl
  exact hQ a hs hd h
 | o :: r, l', hl, a, hs, hd, h => by
  simp only[strL] at hl
  split at hl
  ·rename_i x t hx ht
   cases hl
   obtain ⟨hi, hdst, hlt, hg⟩ := strO_spec hx
   simp only[qopsW,gK,← hg a] at h
   simp only[wpQuiet]
   split at h
   ·rename_i hw
    rw[if_pos hw]
    obtain ⟨v, hv, hK⟩ := q_sound' hi (eval_env a) h
    refine ⟨v, hv, ?_⟩
    refine qops_sound hQ r t ht _ (by rw[put_size]; exact hs) (by rw[put_defers]; exact hd) ?_
    rw[env_putO hs hlt,← hdst]; exact hK
   ·rename_i hw
    rw[if_neg hw]
    refine qops_sound hQ r t ht _ (by rw[put_size]; exact hs) (by rw[put_defers]; exact hd) ?_
    rw[env_putO hs hlt,← hdst]; exact h
  ·cases hl
theorem strL_get {P : Program} {ops : Array Oper} {n : Nat} : ∀ (l : List Oper) (l' : List O), strL P ops n l = some l' → ∀ (i : Nat) (x : O), l'[i]? = some x → ∃ o, l[i]? = some o ∧ strO P ops n o = some x
 | [], l', hl, i, x, hx => by
  simp only[strL,Option.some.injEq] at hl
  subst hl
  simp at hx
 | o :: r, l', hl, i, x, hx => by
  simp only[strL] at hl
  split at hl
  ·rename_i y t hy ht
   cases hl
   cases i with
   | zero => simp at hx; subst hx; exact ⟨o, rfl, hy⟩
   | succ i => simp at hx; obtain ⟨o', ho', hs⟩ := strL_get r t ht i x hx; exact ⟨o', by simpa using ho', hs⟩
  ·cases hl
theorem mOp_of {P : Program} {ops : Array Oper} {i : Nat} {o : Oper} (ho : ops[i]? = some o) {a : Act} {w : World} {K' : Act → World → Prop} {K : Value → World → Prop}
  (h : if Region.wanted o (yielded ops a.tmps) = true then runK P o a.eval w K else K undef w) (hK : ∀ v w', K v w' → K' (a.put o.dst v) w') : mOp P ops i K' a w := by
 unfold mOp
 simp only[ho]
 split at h
 ·rename_i hw
  rw[if_pos hw]
  unfold runK at h
  generalize (execOp a.eval o).run P w = r at *
  cases r with
  | halt x w' => exact h.elim
  | ok x w' =>
   cases x <;> first | exact h.elim | skip
   case value v => exact hK _ _ h
   case skip => exact hK _ _ h
   case enter f args =>
    simp only[callK,Array.toArray_toList] at h
    exact h.mono fun e w'' ⟨v, he, hv⟩ => ⟨v, he, hK _ _ hv⟩
 ·rename_i hw
  rw[if_neg hw]
  exact hK _ _ h
theorem scr_sound {P : Program} {ops : Array Oper} {n : Nat} {dfs : List Deferred} {K : Env → World → Prop} {Q : Act → World → Prop} {D : List Nat} {ls : List O} (hls : strL P ops n ops.toList = some ls) (hsel : Region.noSelect ops = true)
  (hQ : ∀ a w, a.tmps.size = n → a.defers = dfs → K (envOf a) w → Q a w) :
  ∀ (s : List (Nat × Nat)) (listed : Array Bool) (a : Act) (w : World), Closed .any ops listed → scrOk ops D ls s listed = true → a.tmps.size = n → a.defers = dfs → scrW P ls s K (envOf a) w → wpM P .any ops D Q s.length listed a w
 | [], listed, a, w, hc, hk, hs, hd, h => by
  simp only[scrOk,List.isEmpty_iff] at hk
  exact ⟨hk, fun w' ⟨m, hm⟩ => by subst hm; exact hQ _ _ hs hd (h m)⟩
 | (k, i) :: r, listed, a, w, hc, hk, hs, hd, h => by
  simp only[scrOk,Bool.and_eq_true] at hk
  obtain ⟨⟨hready, hrest⟩, hkind⟩ := hk
  have hready : i ∈ Region.ready .any ops listed := by simpa using hready
  simp only[scrW] at h
  split at h
  ·exact h.elim
  ·rename_i x hx
   obtain ⟨o, ho, hxo⟩ := strL_get _ _ hls i x hx
   have ho : ops[i]? = some o := by simpa using ho
   obtain ⟨hi, hdst, hlt, hg⟩ := strO_spec hxo
   have step : ∀ v w', scrW P ls r K (updO (envOf a) x.dst v) w' → wpM P .any ops D Q r.length (listed.setIfInBounds i true) (a.put o.dst v) w' := fun v w' hv =>
    scr_sound hls hsel hQ r _ _ w' (hc.set hready) hrest (by rw[put_size]; exact hs) (by rw[put_defers]; exact hd) (by rw[env_putO hs hlt,← hdst]; exact hv)
   have hsel' := Region.noSelect_spec hsel
   split at h
   ·simp only[Bool.and_eq_true,Bool.not_eq_true'] at hkind
    obtain ⟨⟨hD, hf⟩, hld⟩ := hkind
    have hD : i ∉ D := by simpa using hD
    have hld : ldB x.i = false := by simpa [hx] using hld
    simp only[gK,← hg a] at h
    by_cases hw : Region.wanted o (yielded ops a.tmps) = true
    ·rw[if_pos hw] at h
     obtain ⟨v, hK, hr⟩ := r_sound' hi hld h
     exact wpM_pure ho hsel' hD _ _ _ _ (Region.free_spec ho hf) hready (.inl ⟨hw, by rw[eval_env]; exact hr⟩) (step v w hK)
    ·rw[if_neg hw] at h
     exact wpM_pure ho hsel' hD _ _ _ _ (Region.free_spec ho hf) hready (.inr ⟨by simpa using hw, rfl⟩) (step _ w h)
   ·simp only[Bool.and_eq_true,Bool.not_eq_true',List.all_eq_true,Bool.or_eq_true] at hkind
    obtain ⟨⟨hD, hf⟩, hreach⟩ := hkind
    have hD : i ∉ D := by simpa using hD
    simp only[gK,← hg a] at h
    by_cases hw : Region.wanted o (yielded ops a.tmps) = true
    ·rw[if_pos hw] at h
     obtain ⟨v, hv, hK⟩ := q_sound' hi (eval_env a) h
     exact wpM_quiet ho hsel' hD _ _ _ hc hreach (Region.free_spec ho hf) hready (.inl ⟨hw, hv⟩) (step v w hK)
    ·rw[if_neg hw] at h
     exact wpM_quiet ho hsel' hD _ _ _ hc hreach (Region.free_spec ho hf) hready (.inr ⟨by simpa using hw, rfl⟩) (step _ w h)
   ·simp only[Bool.and_eq_true,decide_eq_true_eq] at hkind
    obtain ⟨hD, hone⟩ := hkind
    have hD : i ∈ D := by simpa using hD
    refine ⟨fun h0 => (by rw[h0] at hone; cases hone), fun j hj => ?_⟩
    rw[hone] at hj
    have hj : j = i := by simpa using hj
    subst hj
    rw[if_pos hD]
    rintro w' ⟨m, rfl⟩
    have hm := h m
    simp only[gK,← hg a] at hm
    refine mOp_of ho (K := fun v w' => scrW P ls r K (updO (envOf a) x.dst v) w') ?_ (fun v w' hv => step v w' hv)
    split at hm
    ·rename_i hw
     rw[if_pos hw,eval_env]
     exact i_sound' hi hm
    ·rename_i hw
     rw[if_neg hw]
     exact hm
theorem ld_det {w : World} {k : TyK} {p : Addr} {K : Value → Prop} (h : ldK w k p K) : ∃ v, K v ∧ ldK w k p (fun v' => v' = v) := by
 cases k with
 | int k => obtain ⟨x, hc, hK⟩ := h; exact ⟨_, hK, x, hc, rfl⟩
 | bool => obtain ⟨x, hc, hK⟩ := h; exact ⟨_, hK, x, hc, rfl⟩
 | string => obtain ⟨x, hc, hK⟩ := h; exact ⟨_, hK, x, hc, rfl⟩
 | pointer => obtain ⟨x, hc, hK⟩ := h; exact ⟨_, hK, x, hc, rfl⟩
 | slice => obtain ⟨x, y, z, hc, hK⟩ := h; exact ⟨_, hK, x, y, z, hc, rfl⟩
 | other => obtain ⟨x, hc, hK⟩ := h; exact ⟨_, hK, x, hc, rfl⟩
 | agg n => obtain ⟨cs, h1, h2, hK⟩ := h; exact ⟨_, hK, cs, h1, h2, rfl⟩
def scrRes (P : Program) (ops : Array Oper) (D : List Nat) (Q : Act → World → Prop) (t : Scr) (cs : List (TyK × Addr × Value)) (listed : Array Bool) (a : Act) (w : World) : Prop :=
 if t.proper = true then wpC P .any ops D (allC cs) Q t.depth listed a w
 else ∀ j ∈ t.heads, j ∈ D ∧ ∀ w', Near w w' → mOp P ops j (fun a' w'' => allC cs w'' ∧ wpC P .any ops D (allC cs) Q (t.depth - 1) (listed.setIfInBounds j true) a' w'') a w'
theorem scrT_sound {P : Program} {ops : Array Oper} {n : Nat} {dfs : List Deferred} {K : Env → World → Prop} {Q : Act → World → Prop} {D : List Nat} {ls : List O} (hls : strL P ops n ops.toList = some ls) (hsel : Region.noSelect ops = true)
  (hQ : ∀ a w, a.tmps.size = n → a.defers = dfs → K (envOf a) w → Q a w) :
  ∀ (t : Scr) (cs : List (TyK × Addr × Value)) (listed : Array Bool) (a : Act) (w : World), Closed .any ops listed → scrOkT ops D ls t listed = true → a.tmps.size = n → a.defers = dfs → scrT P ls t cs K (envOf a) w → scrRes P ops D Q t cs listed a w
 | .nil, cs, listed, a, w, hc, hk, hs, hd, h => by
  simp only[scrOkT,List.isEmpty_iff] at hk
  unfold scrRes
  rw[if_pos (show (_ : Scr).proper = true from rfl)]
  exact ⟨hk, fun w' ⟨m, hm⟩ => by subst hm; exact hQ _ _ hs hd (h m)⟩
 | .st k i r, cs, listed, a, w, hc, hk, hs, hd, h => by
  unfold scrRes
  rw[if_pos (show (_ : Scr).proper = true from rfl)]
  simp only[scrOkT,Bool.and_eq_true] at hk
  obtain ⟨⟨⟨hready, hprop⟩, hrest⟩, hkind⟩ := hk
  have hready : i ∈ Region.ready .any ops listed := by simpa using hready
  simp only[scrT] at h
  split at h
  ·exact h.elim
  ·rename_i x hx
   obtain ⟨o, ho, hxo⟩ := strL_get _ _ hls i x hx
   have ho : ops[i]? = some o := by simpa using ho
   obtain ⟨hi, hdst, hlt, hg⟩ := strO_spec hxo
   have step : ∀ cs v w', scrT P ls r cs K (updO (envOf a) x.dst v) w' → wpC P .any ops D (allC cs) Q r.depth (listed.setIfInBounds i true) (a.put o.dst v) w' := fun cs v w' hv => by
    have := scrT_sound hls hsel hQ r cs (listed.setIfInBounds i true) (a.put o.dst v) w' (hc.set hready) hrest (by rw[put_size]; exact hs) (by rw[put_defers]; exact hd) (by rw[env_putO hs hlt,← hdst]; exact hv)
    unfold scrRes at this
    rwa [if_pos hprop] at this
   have hsel' := Region.noSelect_spec hsel
   split at h
   ·simp only[Bool.and_eq_true,Bool.not_eq_true'] at hkind
    obtain ⟨⟨hD, hf⟩, hld⟩ := hkind
    have hD : i ∉ D := by simpa using hD
    have hld : ldB x.i = false := by simpa [hx] using hld
    simp only[gK,← hg a] at h
    by_cases hw : Region.wanted o (yielded ops a.tmps) = true
    ·rw[if_pos hw] at h
     obtain ⟨v, hK, hr⟩ := r_sound' hi hld h
     exact wpC_pure ho hsel' hD _ _ _ _ (Region.free_spec ho hf) hready (.inl ⟨hw, by rw[eval_env]; exact hr⟩) (step cs v w hK)
    ·rw[if_neg hw] at h
     exact wpC_pure ho hsel' hD _ _ _ _ (Region.free_spec ho hf) hready (.inr ⟨by simpa using hw, rfl⟩) (step cs _ w h)
   ·simp only[Bool.and_eq_true,Bool.not_eq_true',List.all_eq_true,Bool.or_eq_true] at hkind
    obtain ⟨⟨hD, hf⟩, hreach⟩ := hkind
    have hD : i ∉ D := by simpa using hD
    simp only[gK,← hg a] at h
    by_cases hw : Region.wanted o (yielded ops a.tmps) = true
    ·rw[if_pos hw] at h
     obtain ⟨v, hv, hK⟩ := q_sound' hi (eval_env a) h
     exact wpC_quiet ho hsel' hD _ _ _ hc hreach (Region.free_spec ho hf) hready (.inl ⟨hw, hv⟩) (step cs v w hK)
    ·rw[if_neg hw] at h
     exact wpC_quiet ho hsel' hD _ _ _ hc hreach (Region.free_spec ho hf) hready (.inr ⟨by simpa using hw, rfl⟩) (step cs _ w h)
   ·simp only[Bool.and_eq_true,Bool.not_eq_true'] at hkind
    obtain ⟨hD, hf⟩ := hkind
    have hD : i ∉ D := by simpa using hD
    simp only[gK,← hg a] at h
    by_cases hw : Region.wanted o (yielded ops a.tmps) = true
    ·rw[if_pos hw] at h
     unfold fltK at h
     split at h
     ·rename_i k' a' hxi
      obtain ⟨p, hp, h⟩ := ptrK_elim h
      obtain ⟨v, hK, hl⟩ := ld_det h
      refine wpC_float (Cf := fun w' => ldK w' k' p (fun v' => v' = v)) ho hsel' hD _ _ _ _ (Region.free_spec ho hf) hready (fun w' hw' => .inl ⟨hw, ?_⟩) hl (step _ v w hK)
      have hr : rW x.i (envOf a) w' (fun v' => v' = v) := by rw[hxi]; show ptrK _ _; rw[hp]; exact hw'
      obtain ⟨v2, hv2, e2⟩ := q_sound' hi (eval_env a) (show qW P x.i (envOf a) w' (fun v' => v' = v) by rw[hxi] at hr ⊢; exact hr)
      subst e2
      exact hv2
     ·exact h.elim
    ·rw[if_neg hw] at h
     exact wpC_pure ho hsel' hD _ _ _ _ (Region.free_spec ho hf) hready (.inr ⟨by simpa using hw, rfl⟩) (step cs _ w h)
 | .one i r, cs, listed, a, w, hc, hk, hs, hd, h => by
  unfold scrRes
  rw[if_neg (by simp [Scr.proper])]
  simp only[scrOkT,Bool.and_eq_true] at hk
  obtain ⟨⟨⟨hD, hready⟩, hprop⟩, hrest⟩ := hk
  have hready : i ∈ Region.ready .any ops listed := by simpa using hready
  have hD : i ∈ D := by simpa using hD
  intro j hj
  have hj : j = i := by simpa [Scr.heads] using hj
  subst hj
  refine ⟨hD, ?_⟩
  simp only[scrT] at h
  split at h
  ·exact h.elim
  ·rename_i x hx
   obtain ⟨o, ho, hxo⟩ := strL_get _ _ hls j x hx
   have ho : ops[j]? = some o := by simpa using ho
   obtain ⟨hi, hdst, hlt, hg⟩ := strO_spec hxo
   rintro w' ⟨m, rfl⟩
   have hm := h m
   simp only[gK,← hg a] at hm
   refine mOp_of ho (K := fun v w' => allC cs w' ∧ scrT P ls r cs K (updO (envOf a) x.dst v) w') ?_ (fun v w' hv => ⟨hv.1, ?_⟩)
   ·split at hm
    ·rename_i hw
     rw[if_pos hw,eval_env]
     exact i_sound' hi hm
    ·rename_i hw
     rw[if_neg hw]
     exact hm
   ·have := scrT_sound hls hsel hQ r cs (listed.setIfInBounds j true) (a.put o.dst v) w' (hc.set hready) hrest (by rw[put_size]; exact hs) (by rw[put_defers]; exact hd) (by rw[env_putO hs hlt,← hdst]; exact hv.2)
    unfold scrRes at this
    rw[if_pos hprop] at this
    exact this
 | .more i r c, cs, listed, a, w, hc, hk, hs, hd, h => by
  unfold scrRes
  rw[if_neg (by simp [Scr.proper])]
  simp only[scrOkT,Bool.and_eq_true,decide_eq_true_eq,Bool.not_eq_true'] at hk
  obtain ⟨⟨⟨⟨⟨⟨hD, hready⟩, hprop⟩, hrest⟩, hcp⟩, hdep⟩, hcok⟩ := hk
  have hready : i ∈ Region.ready .any ops listed := by simpa using hready
  have hD : i ∈ D := by simpa using hD
  simp only[scrT] at h
  intro j hj
  have hj : j = i ∨ j ∈ c.heads := by simpa [Scr.heads] using hj
  rcases hj with rfl | hj
  ·refine ⟨hD, ?_⟩
   have h := h.1
   split at h
   ·exact h.elim
   ·rename_i x hx
    obtain ⟨o, ho, hxo⟩ := strL_get _ _ hls j x hx
    have ho : ops[j]? = some o := by simpa using ho
    obtain ⟨hi, hdst, hlt, hg⟩ := strO_spec hxo
    rintro w' ⟨m, rfl⟩
    have hm := h m
    simp only[gK,← hg a] at hm
    refine mOp_of ho (K := fun v w' => allC cs w' ∧ scrT P ls r cs K (updO (envOf a) x.dst v) w') ?_ (fun v w' hv => ⟨hv.1, ?_⟩)
    ·split at hm
     ·rename_i hw
      rw[if_pos hw,eval_env]
      exact i_sound' hi hm
     ·rename_i hw
      rw[if_neg hw]
      exact hm
    ·have := scrT_sound hls hsel hQ r cs (listed.setIfInBounds j true) (a.put o.dst v) w' (hc.set hready) hrest (by rw[put_size]; exact hs) (by rw[put_defers]; exact hd) (by rw[env_putO hs hlt,← hdst]; exact hv.2)
     unfold scrRes at this
     rw[if_pos hprop] at this
     exact this
  ·have := scrT_sound hls hsel hQ c cs _ _ w hc hcok hs hd h.2
   unfold scrRes at this
   rw[if_neg (by rw [hcp]; simp)] at this
   have h2 := this j hj
   rw[hdep] at h2
   exact h2
 | .cov c, cs, listed, a, w, hc, hk, hs, hd, h => by
  simp only[scrOkT,Bool.and_eq_true,Bool.not_eq_true',List.all_eq_true] at hk
  obtain ⟨⟨⟨hcp, hne⟩, hall⟩, hcok⟩ := hk
  have hne : Region.ready .any ops listed ≠ [] := by simpa using hne
  have := scrT_sound hls hsel hQ c cs _ _ w hc hcok hs hd h
  unfold scrRes at this ⊢
  rw[if_neg (by rw [hcp]; simp)] at this
  rw[if_pos (show (Scr.cov c).proper = true from rfl)]
  have hpos : ∃ f, c.depth = f + 1 := by
   cases c with
   | nil => simp[Scr.proper] at hcp
   | st => simp[Scr.proper] at hcp
   | cov => simp[Scr.proper] at hcp
   | one i r => exact ⟨_, rfl⟩
   | more i r c => exact ⟨_, rfl⟩
  obtain ⟨f, hf⟩ := hpos
  show wpC P .any ops D (allC cs) Q c.depth listed a w
  rw[hf] at this ⊢
  refine ⟨fun h0 => absurd h0 hne, fun j hj => ?_⟩
  have hjh : j ∈ c.heads := by simpa using hall j hj
  obtain ⟨hD, hm⟩ := this j hjh
  rw[if_pos hD]
  exact hm
def post (n : Nat) (dfs : List Deferred) (K : Exit → Env → World → Prop) : Exit → Act → World → Prop := fun e a w => a.tmps.size = n ∧ a.defers = dfs ∧ K e (envOf a) w
theorem loop_sound {P : Program} {c : Code} {n : Nat} {dfs : List Deferred} {B : (Exit → Env → World → Prop) → Env → World → Prop} {K : Exit → Env → World → Prop}
  (hB : ∀ (K' : Exit → Env → World → Prop) (a : Act) (w : World), a.tmps.size = n → a.defers = dfs → B K' (envOf a) w → c.wp P (post n dfs K') a w) :
  ∀ (m : Nat) (a : Act) (w : World), a.tmps.size = n → a.defers = dfs → loopN B K m (envOf a) w → (Code.loop c).wp P (post n dfs K) a w := by
 intro m a w hs hd h b k cs
 have key : ∀ m a w, a.tmps.size = n → a.defers = dfs → loopN B K m (envOf a) w →
   ∃ e a' w', post n dfs K e a' w' ∧ Arrives P (lone (b.at a (.code c :: .inLoop c :: k)) cs w) b k cs e a' w' := by
  intro m
  induction m with
  | zero => intro a w _ _ h; exact h.elim
  | succ m ih =>
   intro a w hs hd h
   obtain ⟨e, a₁, w₁, hq, harr⟩ := hB _ a w hs hd h b (.inLoop c :: k) cs
   obtain ⟨hs₁, hd₁, hK⟩ := hq
   cases e with
   | normal =>
    obtain ⟨e₂, a₂, w₂, hq₂, harr₂⟩ := ih a₁ w₁ hs₁ hd₁ hK
    exact ⟨e₂, a₂, w₂, hq₂, .of_steps (Steps.trans harr (.one step_inLoop)) harr₂⟩
   | exit id => exact ⟨_, a₁, w₁, ⟨hs₁, hd₁, hK⟩, .pass (x := .inLoop c) rfl (fun _ _ => .inl (by simp)) harr⟩
   | goto l => exact ⟨_, a₁, w₁, ⟨hs₁, hd₁, hK⟩, .pass (x := .inLoop c) rfl (fun _ _ => .inl (by simp)) harr⟩
   | ret => exact ⟨_, a₁, w₁, ⟨hs₁, hd₁, hK⟩, .pass (x := .inLoop c) rfl (fun _ _ => .inl (by simp)) harr⟩
   | panic ch => exact ⟨_, a₁, w₁, ⟨hs₁, hd₁, hK⟩, .pass (x := .inLoop c) rfl (fun _ _ => .inl (by simp)) harr⟩
   | outgrown => exact ⟨_, a₁, w₁, ⟨hs₁, hd₁, hK⟩, .pass (x := .inLoop c) rfl (fun _ _ => .inl (by simp)) harr⟩
 obtain ⟨e, a', w', hq, harr⟩ := key m a w hs hd h
 exact ⟨e, a', w', hq, .of_steps (.one step_loop) harr⟩
theorem S_sound {P : Program} {n : Nat} {dn : List (Nat × Sc)} {dfs : List Deferred} : ∀ (c : Code) (s : S), strS P n dn c = some s → ∀ (K : Exit → Env → World → Prop) (a : Act) (w : World), a.tmps.size = n → a.defers = dfs → s.W P K (envOf a) w → c.wp P (post n dfs K) a w := by
 intro c
 induction c with
 | skip => intro s hs K a w ha hd h; cases hs; exact wp_skip ⟨ha, hd, h⟩
 | ret => intro s hs K a w ha hd h; cases hs; exact wp_ret ⟨ha, hd, h⟩
 | exit id => intro s hs K a w ha hd h; cases hs; exact wp_exit ⟨ha, hd, h⟩
 | seq x y ihx ihy =>
  intro s hs K a w ha hd h
  simp only[strS] at hs
  split at hs
  ·rename_i sx sy hx hy
   have h : sx.W P (seqK (sy.W P K) K) (envOf a) w := by split at hs <;> cases hs <;> exact h
   refine wp_seq (wp_mono (ihx sx hx (seqK (sy.W P K) K) a w ha hd h) ?_)
   rintro e a' w' ⟨ha', hd', h'⟩
   cases e with
   | normal => exact ihy sy hy K a' w' ha' hd' h'
   | exit id => exact ⟨ha', hd', h'⟩
   | goto l => exact ⟨ha', hd', h'⟩
   | ret => exact ⟨ha', hd', h'⟩
   | panic ch => exact ⟨ha', hd', h'⟩
   | outgrown => exact ⟨ha', hd', h'⟩
  ·cases hs
 | cond c x y ihx ihy =>
  intro s hs K a w ha hd h
  simp only[strS] at hs
  split at hs
  ·rename_i sx sy hx hy
   cases hs
   obtain ⟨t, ht, h⟩ := boolK_elim h
   refine wp_cond (t := t) (by rw[eval_env]; exact ht) ?_
   cases t with
   | true => exact ihx sx hx K a w ha hd h
   | false => exact ihy sy hy K a w ha hd h
  ·cases hs
 | block id b ih =>
  intro s hs K a w ha hd h
  simp only[strS,Option.map_eq_some_iff] at hs
  obtain ⟨sb, hb, rfl⟩ := hs
  refine wp_block (wp_mono (ih sb hb (blkK id K) a w ha hd h) ?_)
  rintro e a' w' ⟨ha', hd', h'⟩
  cases e with
  | exit j =>
   simp only[blkK] at h'
   simp only[Exit.inBlock]
   split at h' <;> rename_i hj
   ·rw[if_pos hj]; exact ⟨ha', hd', h'⟩
   ·rw[if_neg hj]; exact ⟨ha', hd', h'⟩
  | normal => exact ⟨ha', hd', h'⟩
  | goto l => exact ⟨ha', hd', h'⟩
  | ret => exact ⟨ha', hd', h'⟩
  | panic ch => exact ⟨ha', hd', h'⟩
  | outgrown => exact ⟨ha', hd', h'⟩
 | loop b ih =>
  intro s hs K a w ha hd h
  simp only[strS,Option.map_eq_some_iff] at hs
  obtain ⟨sb, hb, rfl⟩ := hs
  obtain ⟨m, h⟩ := h
  exact loop_sound (fun K' a w ha hd h => ih sb hb K' a w ha hd h) m a w ha hd h
 | region id ops draw =>
  intro s hs K a w ha hd h
  simp only[strS] at hs
  split at hs
  ·cases hs
  ·rename_i l hl
   split at hs
   ·rename_i hdr
    subst hdr
    split at hs
    ·rename_i q scr hfind
     split at hs
     ·rename_i hc
      cases hs
      simp only[scriptOk,Bool.and_eq_true,decide_eq_true_eq] at hc
      obtain ⟨⟨⟨hfo, hsel⟩, hlen⟩, hok⟩ := hc
      have hM := scr_sound (dfs := dfs) (Q := fun a w => post n dfs K .normal a w) hl hsel (fun a w h1 h2 h3 => ⟨h1, h2, h3⟩) scr _ a w.drew (Closed.start _) hok ha hd h
      refine wp_region_any hfo ?_
      rw[hlen] at hM
      exact wpM_any (fun a w h => h) _ _ _ _ hM _ ⟨0, rfl⟩
     ·cases hs
    ·rename_i q scr hfind
     split at hs
     ·rename_i hc
      cases hs
      simp only[scriptOkT,Bool.and_eq_true,decide_eq_true_eq] at hc
      obtain ⟨⟨⟨⟨hfo, hsel⟩, hlen⟩, hprop⟩, hok⟩ := hc
      have hM := scrT_sound (dfs := dfs) (Q := fun a w => post n dfs K .normal a w) hl hsel (fun a w h1 h2 h3 => ⟨h1, h2, h3⟩) scr [] _ a w.drew (Closed.start _) hok ha hd h
      unfold scrRes at hM
      rw[if_pos hprop,hlen] at hM
      refine wp_region_any hfo ?_
      exact wpC_any (fun a w h => h) _ _ _ _ hM _ ⟨0, rfl⟩
     ·cases hs
    ·split at hs
     ·rename_i hc
      simp only[drawOk,Bool.and_eq_true] at hc
      cases hs
      obtain ⟨hlen, htk⟩ := strL_take ops.toList l hl
      have hlit : ops = ops.toList.toArray := by simp
      generalize hk : headOf id l = k at *
      simp only[S.W] at h
      by_cases hlt : k < l.length
      ·rw[if_pos hlt] at hc
       rw[hlit]
       refine wp_region_quiet_tail (C := fun w' => ∃ m, w' = w.drewN m) k hc.1 (by rw[← hlit]; exact hc.2) ⟨1, rfl⟩ ?_
       rw[← hlit]
       refine qops_sound (dfs := dfs) (K := fun ρ' => ∀ m, opsW P (l.drop k) (K .normal) ρ' (w.drewN m)) (fun a' ha' hd' h' w' hw' => ?_) _ _ (htk k).1 a ha hd h
       obtain ⟨m, rfl⟩ := hw'
       exact ops_sound (dfs := dfs) (fun a w h1 h2 h3 => ⟨h1, h2, h3⟩) _ _ (htk k).2 a' _ ha' hd' (h' m)
      ·rw[if_neg hlt] at hc
       refine wp_region_quiet (C := fun w' => ∃ m, w' = w.drewN m) hc.1 hc.2 ⟨1, rfl⟩ ?_
       have h1 := (htk k).1
       rw[List.take_of_length_le (by omega),List.take_of_length_le (by omega)] at h1
       rw[List.take_of_length_le (by omega),List.drop_eq_nil_of_le (by omega)] at h
       refine qops_sound (dfs := dfs) (K := fun ρ' => ∀ m, opsW P [] (K .normal) ρ' (w.drewN m)) (fun a' ha' hd' h' w' hw' => ?_) _ _ h1 a ha hd h
       obtain ⟨m, rfl⟩ := hw'
       exact ⟨ha', hd', h' m⟩
     ·cases hs
   ·rename_i hdr
    have hdr : draw = false := by simpa using hdr
    subst hdr
    cases hs
    refine wp_region_list ?_
    exact ops_sound (dfs := dfs) (fun a w h1 h2 h3 => ⟨h1, h2, h3⟩) _ _ hl a w ha hd h
 | _ => intro s hs; cases hs
def resK (P : Program) (rs : List (Sum Nat (TyK × Nat))) (ρ : Env) (w : World) (K : List Value → Prop) : Prop :=
 match rs with
 | [] => K []
 | .inl t :: r => resK P r ρ w fun vs => K (ρ t :: vs)
 | .inr (k, t) :: r => ptrK (ρ t) fun p => ldK w k p fun v => resK P r ρ w fun vs => K (v :: vs)
def strR (P : Program) : List ResultVar → Option (List (Sum Nat (TyK × Nat)))
 | [] => some []
 | .tmp t :: r => (strR P r).map (.inl t :: ·)
 | .cell a t :: r => (match tyk P t, strR P r with
  | some k, some l => if (P.info? t).isSome then some (.inr (k, a) :: l) else none
  | _, _ => none)
def packV : List Value → Value
 | [v] => v
 | vs => .tuple vs.toArray
theorem res_run {P : Program} {a : Act} {w : World} : ∀ (rs : List ResultVar) (l : List (Sum Nat (TyK × Nat))), strR P rs = some l → ∀ K, resK P l (envOf a) w K → ∃ vs : List Value, K vs ∧ ∀ acc : Array Value,
  (List.foldlM (fun (b : Array Value) (r : ResultVar) => do pure (b.push (← (match r with | .tmp t => pure (a.tmps.getD t undef) | .cell c t => do loadVar t (← asAddr (a.tmps.getD c undef)) : Sem Value)))) acc rs : Sem (Array Value)).run P w = .ok (acc ++ vs.toArray) w
 | [], l, hl, K, h => by
  cases hl
  exact ⟨[], h, fun acc => by simp⟩
 | .tmp t :: r, l, hl, K, h => by
  simp only[strR,Option.map_eq_some_iff] at hl
  obtain ⟨l', hl', rfl⟩ := hl
  obtain ⟨vs, hK, hr⟩ := res_run r l' hl' _ h
  refine ⟨_ :: vs, hK, fun acc => ?_⟩
  simp only[List.foldlM_cons,Sem.run_bind,Sem.run_pure,Result.andThen_ok]
  rw[hr]
  simp[envOf]
 | .cell c t :: r, l, hl, K, h => by
  simp only[strR] at hl
  split at hl
  ·rename_i k l' hk hl'
   split at hl
   ·rename_i hinfo
    cases hl
    obtain ⟨p, hp, h⟩ := ptrK_elim h
    obtain ⟨v, hK, hrun⟩ := ld_run hk hinfo h
    obtain ⟨vs, hK, hr⟩ := res_run r l' hl' _ hK
    refine ⟨v :: vs, hK, fun acc => ?_⟩
    have hp' : a.tmps.getD c undef = .pointer (some p) := hp
    have hl0 := hrun w rfl
    have ha : (asAddr (a.tmps.getD c undef)).run P w = .ok p w := by rw[hp']; rfl
    simp only[List.foldlM_cons,Sem.run_bind,Sem.run_pure,Result.andThen_ok,ha,hl0]
    rw[hr]
    simp
   ·cases hl
  ·cases hl
theorem results_run {P : Program} {fn : Func} {a : Act} {w : World} {l : List (Sum Nat (TyK × Nat))} (hl : strR P fn.results.toList = some l) {K : Value → Prop} (h : resK P l (envOf a) w fun vs => K (packV vs)) :
  ∃ v, (results fn a.tmps).run P w = .ok v w ∧ K v := by
 obtain ⟨vs, hK, hr⟩ := res_run fn.results.toList l hl _ h
 refine ⟨_, ?_, hK⟩
 have hm := hr #[]
 simp only[results,Sem.run_bind]
 rw[Array.mapM_eq_foldlM,← Array.foldlM_toList]
 rw[show (#[] : Array Value) ++ vs.toArray = vs.toArray by simp] at hm
 refine (congrArg (fun r => Result.andThen r _) hm).trans ?_
 simp only[Result.andThen_ok,Sem.run_pure]
 congr 1
 match vs with
 | [] => rfl
 | [v] => rfl
 | v :: u :: r => simp[packV]
structure Fun where
 n : Nat
 res : List (Sum Nat (TyK × Nat))
 code : S
def strF (P : Program) (dn : List (Nat × Sc)) (fn : Func) : Option Fun :=
 match fn.body with
 | none => none
 | some c => (match strS P fn.ntmps dn c, strR P fn.results.toList with
  | some s, some r => some ⟨fn.ntmps, r, s⟩
  | _, _ => none)
def env0 (args : List Value) : Env := fun t => args.getD t undef
def retK (P : Program) (f : Fun) (K : Value → World → Prop) : Exit → Env → World → Prop
 | .normal, ρ, w | .ret, ρ, w => resK P f.res ρ w fun vs => K (packV vs) w
 | _, _, _ => False
theorem call_of {P : Program} {f : FuncId} {fn : Func} {dn : List (Nat × Sc)} {F : Fun} (hf : P.funcs[f]? = some fn) (hF : strF P dn fn = some F) {args : List Value} (hn : args.length ≤ F.n) {w : World} {K : Value → World → Prop}
  (h : F.code.W P (retK P F K) (env0 args) w) : callK P f args w K := by
 unfold strF at hF
 split at hF
 ·cases hF
 ·rename_i c hc
  split at hF
  ·rename_i s r hs hr
   cases hF
   refine calls_of_wp hf hc ?_
   simp only at hn
   have hsz : (args.toArray ++ Array.replicate (fn.ntmps - args.toArray.size) undef).size = fn.ntmps := by simp; omega
   have henv : envOf ⟨args.toArray ++ Array.replicate (fn.ntmps - args.toArray.size) undef, []⟩ = env0 args := by
    funext t
    simp only[envOf,env0,Array.getD_eq_getD_getElem?,List.getD_eq_getElem?_getD]
    rcases Nat.lt_or_ge t args.length with ht | ht
    ·simp[Array.getElem?_append,ht]
    ·simp only[Array.getElem?_append,List.size_toArray]
     rw[if_neg (by omega),List.getElem?_eq_none ht]
     simp only[Array.getElem?_replicate]
     split <;> simp
   refine wp_mono (S_sound (dfs := []) c s hs (retK P ⟨fn.ntmps, r, s⟩ K) _ w hsz rfl (by rw[henv]; exact h)) ?_
   rintro e a' w' ⟨ha', hd', h'⟩
   cases e <;> first | exact h'.elim | skip
   ·obtain ⟨v, hrun, hK⟩ := results_run (K := fun v => K v w') hr h'
    exact ⟨hd', v, hrun, v, rfl, hK⟩
   ·obtain ⟨v, hrun, hK⟩ := results_run (K := fun v => K v w') hr h'
    exact ⟨hd', v, hrun, v, rfl, hK⟩
  ·cases hF
end Go.Proofs.YtcgplgpdcfocpaaGreatDoor.Eng
end
section
namespace Go.Proofs.YtcgplgpdcfocpaaGreatDoor.Eng
open Go Go.RowKit
@[congr] theorem c_letK {v v' : Value} (h : v = v') (K : Value → Prop) : letK v K = letK v' K := by rw[h]
@[congr] theorem c_boolK {v v' : Value} (h : v = v') (K : Bool → Prop) : boolK v K = boolK v' K := by rw[h]
@[congr] theorem c_intK {v v' : Value} (h : v = v') (K : Int → Prop) : intK v K = intK v' K := by rw[h]
@[congr] theorem c_ptrK {v v' : Value} (h : v = v') (K : Addr → Prop) : ptrK v K = ptrK v' K := by rw[h]
@[congr] theorem c_slK {v v' : Value} (h : v = v') (K : Option Addr → Nat → Nat → Prop) : slK v K = slK v' K := by rw[h]
@[congr] theorem c_tupK {v v' : Value} (h : v = v') (i : Nat) (K : Value → Prop) : tupK v i K = tupK v' i K := by rw[h]
@[congr] theorem c_optK {v v' : Option Value} (h : v = v') (K : Option Int → Prop) : optK v K = optK v' K := by rw[h]
@[congr] theorem c_binK (op : BinOp) {x x' y y' : Value} (hx : x = x') (hy : y = y') (K : Value → Prop) : binK op x y K = binK op x' y' K := by rw[hx,hy]
@[congr] theorem c_eqK (k : TyK) (n : Bool) {x x' y y' : Value} (hx : x = x') (hy : y = y') (K : Value → Prop) : eqK k n x y K = eqK k n x' y' K := by rw[hx,hy]
@[congr] theorem c_unK (op : UnOp) {x x' : Value} (hx : x = x') (K : Value → Prop) : unK op x K = unK op x' K := by rw[hx]
@[congr] theorem c_ldK (w : World) (k : TyK) {p p' : Addr} (h : p = p') (K : Value → Prop) : ldK w k p K = ldK w k p' K := by rw[h]
@[congr] theorem c_stK (n : Nat) {p p' : Addr} {v v' : Value} (h : p = p') (hv : v = v') (w : World) (K : World → Prop) : stK n p v w K = stK n p' v' w K := by rw[h,hv]
@[congr] theorem c_gK {b b' : Bool} (h : b = b') (A B : Prop) : gK b A B = gK b' A B := by rw[h]
@[congr] theorem c_appK (e sz bytes : Nat) (z : Array Value) {x x' y y' : Value} (hx : x = x') (hy : y = y') (w : World) (K : Value → World → Prop) : appK e sz bytes z x y w K = appK e sz bytes z x' y' w K := by rw[hx,hy]
@[congr] theorem c_callK (P : Program) (f : FuncId) {a a' : List Value} (h : a = a') (w : World) (K : Value → World → Prop) : callK P f a w K = callK P f a' w K := by rw[h]
@[congr] theorem c_qcallK (P : Program) (f : FuncId) {a a' : List Value} (h : a = a') (w : World) (K : Value → Prop) : qcallK P f a w K = qcallK P f a' w K := by rw[h]
@[congr] theorem c_strK {v v' : Value} (h : v = v') (K : ByteArray → Prop) : strK v K = strK v' K := by rw[h]
@[congr] theorem c_appsK (e bytes : Nat) (z : Array Value) {x x' y y' : Value} (hx : x = x') (hy : y = y') (w : World) (K : Value → World → Prop) : appsK e bytes z x y w K = appsK e bytes z x' y' w K := by rw[hx,hy]
@[congr] theorem c_appzK (e sz bytes : Nat) (z : Array Value) {x x' y y' : Value} (hx : x = x') (hy : y = y') (w : World) (K : Value → World → Prop) : appzK e sz bytes z x y w K = appzK e sz bytes z x' y' w K := by rw[hx,hy]
@[congr] theorem c_scrW (P : Program) (l : List O) (s : List (Nat × Nat)) (K : Env → World → Prop) (ρ : Env) (w : World) : scrW P l s K ρ w = scrW P l s K ρ w := (rfl)
@[congr] theorem c_opsW (P : Program) {l l' : List O} (h : l = l') (K : Env → World → Prop) (ρ : Env) (w : World) : opsW P l K ρ w = opsW P l' K ρ w := by rw[h]
@[congr] theorem c_qopsW (P : Program) {l l' : List O} (h : l = l') (K : Env → Prop) (ρ : Env) (w : World) : qopsW P w l K ρ = qopsW P w l' K ρ := by rw[h]
@[congr] theorem c_W (P : Program) (s : S) (K : Exit → Env → World → Prop) (ρ : Env) (w : World) : s.W P K ρ w = s.W P K ρ w := (rfl)
@[congr] theorem c_iW (P : Program) (i : I) (K : Value → World → Prop) (ρ : Env) (w : World) : iW P i ρ w K = iW P i ρ w K := (rfl)
@[congr] theorem c_qW (P : Program) (i : I) (K : Value → Prop) (ρ : Env) (w : World) : qW P i ρ w K = qW P i ρ w K := (rfl)
@[congr] theorem c_rW (i : I) (K : Value → Prop) (ρ : Env) (w : World) : rW i ρ w K = rW i ρ w K := (rfl)
@[congr] theorem c_seqK (N : Env → World → Prop) (K : Exit → Env → World → Prop) (e : Exit) (ρ : Env) (w : World) : seqK N K e ρ w = seqK N K e ρ w := (rfl)
@[congr] theorem c_blkK (id : Nat) (K : Exit → Env → World → Prop) (e : Exit) (ρ : Env) (w : World) : blkK id K e ρ w = blkK id K e ρ w := (rfl)
inductive Tok.{u} {α : Sort u} (a : α) : Type where
 | mk
@[reducible] def callT (P : Program) (f : FuncId) (args : List Value) (w : World) (K : Value → World → Prop) (_ : Tok K) : Prop := callK P f args w K
@[reducible] def qcallT (P : Program) (f : FuncId) (args : List Value) (w : World) (K : Value → Prop) (_ : Tok K) : Prop := qcallK P f args w K
@[reducible] def stT (n : Nat) (p : Addr) (v : Value) (w : World) (K : World → Prop) (_ : Tok K) : Prop := stK n p v w K
@[reducible] def alT (cs : Array Value) (t : TypeId) (w : World) (K : World → Prop) (_ : Tok K) : Prop := K (w.alloc (.cells cs t))
@[reducible] def ldT (w : World) (n : Nat) (p : Addr) (K : Value → Prop) (_ : Tok K) : Prop := ldK w (.agg n) p K
@[reducible] def appT (e sz bytes : Nat) (z : Array Value) (x y : Value) (w : World) (K : Value → World → Prop) (_ : Tok K) : Prop := appK e sz bytes z x y w K
@[reducible] def appsT (e bytes : Nat) (z : Array Value) (x y : Value) (w : World) (K : Value → World → Prop) (_ : Tok K) : Prop := appsK e bytes z x y w K
@[reducible] def appzT (e sz bytes : Nat) (z : Array Value) (x y : Value) (w : World) (K : Value → World → Prop) (_ : Tok K) : Prop := appzK e sz bytes z x y w K
@[reducible] def bldT (z : Array Value) (pl : List (Nat × Nat)) (parts : List (Nat × Value)) (K : Value → Prop) (_ : Tok K) : Prop := ∃ cs, fillL pl z parts = some cs ∧ K (.agg cs)
@[reducible] def bslT (e sz len : Nat) (z : Array Value) (parts : List (Nat × Value)) (w : World) (K : Value → World → Prop) (_ : Tok K) : Prop := ∃ cs, fillS sz ((Array.range (len * sz)).map (z[· % z.size]!)) parts = some cs ∧ K (.slice (some ⟨w.heap.size, 0, none⟩) len len) (w.alloc (.cells cs e))
@[reducible] def cpyT (sz : Nat) (x y : Value) (w : World) (K : Value → World → Prop) (_ : Tok K) : Prop := match x, y with
  | .slice A n _, .slice B m _ => ∃ new : List Value, new.length = (Nat.min m n) * sz ∧ (0 < Nat.min m n → ∃ p b o, B = some p ∧ cellsAt w p new ∧ A = some ⟨b, o, none⟩ ∧ (∀ v ∈ new, v.oneCell' = true) ∧
    (∀ j, j < new.length → (w.cell? ⟨b, o + j, none⟩).isSome = true) ∧ (∀ j, j < new.length → w.frozen? ⟨b, o + j, none⟩ = false) ∧ K (.int .i64 ((Nat.min m n : Nat) : Int)) (w.setCells b o new)) ∧
    (Nat.min m n = 0 → K (.int .i64 0) w)
  | _, _ => False
@[reducible] def cvbsT (x : Value) (w : World) (K : Value → Prop) (_ : Tok K) : Prop := slK x fun A n _ => ∃ xs : List Int, xs.length = n ∧ (0 < n → ∃ p, A = some p ∧ cellsAt w p (xs.map (Value.int .u8))) ∧ K (.string (strOfNums xs))
def ixsK (s : ByteArray) (i : Int) (K : Value → Prop) : Prop := ∃ h : i.toNat < s.size, 0 ≤ i ∧ K (.int .u8 ((s[i.toNat]'h).toNat : Int))
@[reducible] def rgsT (s : ByteArray) (w : World) (K : Value → World → Prop) (_ : Tok K) : Prop := K (.pointer (some ⟨w.heap.size, 0, none⟩)) (w.alloc (.stringIter s 0))
@[reducible] def nxsT (p : Addr) (w : World) (K : Value → World → Prop) (_ : Tok K) : Prop := nxsK p w K
def gB (v : Value) (b : Bool) (A B : Prop) (_ : Tok A) (_ : Tok B) : Prop := gK (match v with | .bool c => c == b | _ => false) A B
theorem gB_tt (A B : Prop) (t s) : gB (.bool true) true A B t s = A := by simp[gB,gK]
theorem gB_ff (A B : Prop) (t s) : gB (.bool false) false A B t s = A := by simp[gB,gK]
theorem gB_tf (A B : Prop) (t s) : gB (.bool true) false A B t s = B := by simp[gB,gK]
theorem gB_ft (A B : Prop) (t s) : gB (.bool false) true A B t s = B := by simp[gB,gK]
theorem gB_un (A B : Prop) (b t s) : gB undef b A B t s = B := by cases b <;> simp[gB,gK,undef]
def ldC (k : TyK) (c : Option Value) (K : Value → Prop) (_ : Tok K) : Prop :=
 match k, c with
 | .int k, some (.int k' x) => k' = k ∧ K (.int k x)
 | .bool, some (.bool x) => K (.bool x)
 | .string, some (.string x) => K (.string x)
 | .pointer, some (.pointer x) => K (.pointer x)
 | .slice, some (.slice a n c) => K (.slice a n c)
 | .other, some v => K v
 | _, _ => False
theorem ldC_int (k : IntKind) (x : Int) (K) (t) : ldC (.int k) (some (.int k x)) K t = K (.int k x) := by simp[ldC]
theorem ldC_bool (x : Bool) (K) (t) : ldC .bool (some (.bool x)) K t = K (.bool x) := (rfl)
theorem ldC_string (x : ByteArray) (K) (t) : ldC .string (some (.string x)) K t = K (.string x) := (rfl)
theorem ldC_pointer (x : Option Addr) (K) (t) : ldC .pointer (some (.pointer x)) K t = K (.pointer x) := (rfl)
theorem ldC_slice (a : Option Addr) (n c : Nat) (K) (t) : ldC .slice (some (.slice a n c)) K t = K (.slice a n c) := (rfl)
theorem ldC_other (v : Value) (K) (t) : ldC .other (some v) K t = K v := (rfl)
def iaK (sz : Nat) (A : Option Addr) (n : Nat) (i : Int) (K : Value → Prop) (_ : Tok K) : Prop := match A with | some p => 0 ≤ i ∧ i < n ∧ K (.pointer (some (p.add (i.toNat * sz)))) | none => False
theorem iaK_some (sz : Nat) (p : Addr) (n : Nat) (i : Int) (K) (t) : iaK sz (some p) n i K t = (0 ≤ i ∧ i < n ∧ K (.pointer (some (p.add (i.toNat * sz))))) := (rfl)
theorem iaK_eq (sz : Nat) (A : Option Addr) (n : Nat) (i : Int) (K) : (∃ p, A = some p ∧ 0 ≤ i ∧ i < n ∧ K (.pointer (some (p.add (i.toNat * sz))))) = iaK sz A n i K .mk := by
 cases A <;> simp[iaK]
def minK (x y : Value) (K : Value → Prop) : Prop := match x, y with
 | .int k a, .int _ b => K (.int k (if b < a then b else a))
 | _, _ => False
def maxK (x y : Value) (K : Value → Prop) : Prop := match x, y with
 | .int k a, .int _ b => K (.int k (if a < b then b else a))
 | _, _ => False
@[congr] theorem c_minK {x x' y y' : Value} (hx : x = x') (hy : y = y') (K : Value → Prop) : minK x y K = minK x' y' K := by rw[hx,hy]
@[congr] theorem c_maxK {x x' y y' : Value} (hx : x = x') (hy : y = y') (K : Value → Prop) : maxK x y K = maxK x' y' K := by rw[hx,hy]
@[reducible] def loopT (P : Program) (b : S) (K : Exit → Env → World → Prop) (ρ : Env) (w : World) (_ : Tok (b, K, ρ)) : Prop := (S.loop b).W P K ρ w
@[reducible] def joinT (P : Program) (a b : S) (K : Exit → Env → World → Prop) (ρ : Env) (w : World) (_ : Tok (a, b, K, ρ)) : Prop := (S.join a b).W P K ρ w
theorem W_ops (P : Program) (l : List O) (K) (ρ : Env) (w : World) : (S.ops l).W P K ρ w = opsW P l (K .normal) ρ w := (rfl)
theorem W_draw (P : Program) (n : Nat) (l : List O) (K) (ρ : Env) (w : World) : (S.draw n l).W P K ρ w = qopsW P w (l.take n) (fun ρ' => ∀ m, opsW P (l.drop n) (K .normal) ρ' (w.drewN m)) ρ := (rfl)
theorem W_drawS (P : Program) (s) (l : List O) (K) (ρ : Env) (w : World) : (S.drawS s l).W P K ρ w = scrW P l s (K .normal) ρ (w.drewN 1) := (rfl)
theorem W_drawT (P : Program) (t) (l : List O) (K) (ρ : Env) (w : World) : (S.drawT t l).W P K ρ w = scrT P l t [] (K .normal) ρ (w.drewN 1) := (rfl)
theorem allC_nil (w : World) : allC [] w = True := (rfl)
theorem allC_cons (k p v r) (w : World) : allC ((k, p, v) :: r) w = (ldK w k p (fun v' => v' = v) ∧ allC r w) := (rfl)
@[congr] theorem c_scrT (P : Program) (l : List O) (t : Scr) (cs) (K : Env → World → Prop) (ρ : Env) (w : World) : scrT P l t cs K ρ w = scrT P l t cs K ρ w := (rfl)
theorem scrT_nil (P : Program) (l : List O) (cs) (K) (ρ : Env) (w : World) : scrT P l .nil cs K ρ w = ∀ m, K ρ (w.drewN m) := (rfl)
theorem scrT_cov (P : Program) (l : List O) (c cs) (K) (ρ : Env) (w : World) : scrT P l (.cov c) cs K ρ w = scrT P l c cs K ρ w := (rfl)
def scrX (P : Program) (l : List O) (k : Nat) (o : Option O) (r : Scr) (cs : List (TyK × Addr × Value)) (K : Env → World → Prop) (ρ : Env) (w : World) : Prop :=
 match o with
  | none => False
  | some o => (match k with
   | 0 => gK (gv ρ o.g) (rW o.i ρ w fun v => scrT P l r cs K (updO ρ o.dst v) w) (scrT P l r cs K (updO ρ o.dst undef) w)
   | 1 => gK (gv ρ o.g) (qW P o.i ρ w fun v => scrT P l r cs K (updO ρ o.dst v) w) (scrT P l r cs K (updO ρ o.dst undef) w)
   | 2 => ∀ m, gK (gv ρ o.g) (iW P o.i ρ (w.drewN m) fun v w' => allC cs w' ∧ scrT P l r cs K (updO ρ o.dst v) w') (allC cs (w.drewN m) ∧ scrT P l r cs K (updO ρ o.dst undef) (w.drewN m))
   | _ => gK (gv ρ o.g) (fltK o.i ρ w fun k p v => scrT P l r ((k, p, v) :: cs) K (updO ρ o.dst v) w) (scrT P l r cs K (updO ρ o.dst undef) w))
@[congr] theorem c_scrX (P : Program) (l : List O) (k : Nat) {o o' : Option O} (h : o = o') (r : Scr) (cs) (K : Env → World → Prop) (ρ : Env) (w : World) : scrX P l k o r cs K ρ w = scrX P l k o' r cs K ρ w := by rw[h]
theorem scrT_p (P : Program) (l : List O) (i r cs) (K) (ρ : Env) (w : World) : scrT P l (.st 0 i r) cs K ρ w = scrX P l 0 l[i]? r cs K ρ w := (rfl)
theorem scrT_q (P : Program) (l : List O) (i r cs) (K) (ρ : Env) (w : World) : scrT P l (.st 1 i r) cs K ρ w = scrX P l 1 l[i]? r cs K ρ w := (rfl)
theorem scrT_f (P : Program) (l : List O) (i r cs) (K) (ρ : Env) (w : World) : scrT P l (.st 3 i r) cs K ρ w = scrX P l 3 l[i]? r cs K ρ w := (rfl)
theorem scrT_one (P : Program) (l : List O) (i r cs) (K) (ρ : Env) (w : World) : scrT P l (.one i r) cs K ρ w = scrX P l 2 l[i]? r cs K ρ w := (rfl)
theorem scrT_more (P : Program) (l : List O) (i r c cs) (K) (ρ : Env) (w : World) : scrT P l (.more i r c) cs K ρ w = (scrX P l 2 l[i]? r cs K ρ w ∧ scrT P l c cs K ρ w) := (rfl)
theorem scrX_p (P : Program) (l : List O) (d : Nat) (i : I) (r cs) (K) (ρ : Env) (w : World) : scrX P l 0 (some ⟨some d, none, i⟩) r cs K ρ w = rW i ρ w fun v => scrT P l r cs K (upd ρ d v) w := (rfl)
theorem scrX_q (P : Program) (l : List O) (d : Nat) (i : I) (r cs) (K) (ρ : Env) (w : World) : scrX P l 1 (some ⟨some d, none, i⟩) r cs K ρ w = qW P i ρ w fun v => scrT P l r cs K (upd ρ d v) w := (rfl)
theorem scrX_l (P : Program) (l : List O) (d : Nat) (i : I) (r cs) (K) (ρ : Env) (w : World) : scrX P l 2 (some ⟨some d, none, i⟩) r cs K ρ w = ∀ m, iW P i ρ (w.drewN m) fun v w' => allC cs w' ∧ scrT P l r cs K (upd ρ d v) w' := (rfl)
theorem scrX_l0 (P : Program) (l : List O) (i : I) (r cs) (K) (ρ : Env) (w : World) : scrX P l 2 (some ⟨none, none, i⟩) r cs K ρ w = ∀ m, iW P i ρ (w.drewN m) fun v w' => allC cs w' ∧ scrT P l r cs K ρ w' := (rfl)
theorem scrX_f (P : Program) (l : List O) (d : Nat) (k : TyK) (a : Operand) (r cs) (K) (ρ : Env) (w : World) : scrX P l 3 (some ⟨some d, none, .ld k a⟩) r cs K ρ w = ptrK (ev ρ a) fun p => ldK w k p fun v => scrT P l r ((k, p, v) :: cs) K (upd ρ d v) w := (rfl)
theorem scrW_nil (P : Program) (l : List O) (K) (ρ : Env) (w : World) : scrW P l [] K ρ w = ∀ m, K ρ (w.drewN m) := (rfl)
def scrO (P : Program) (l : List O) (k : Nat) (o : Option O) (r : List (Nat × Nat)) (K : Env → World → Prop) (ρ : Env) (w : World) : Prop :=
 match o with
 | none => False
 | some o => match k with
  | 0 => gK (gv ρ o.g) (rW o.i ρ w fun v => scrW P l r K (updO ρ o.dst v) w) (scrW P l r K (updO ρ o.dst undef) w)
  | 1 => gK (gv ρ o.g) (qW P o.i ρ w fun v => scrW P l r K (updO ρ o.dst v) w) (scrW P l r K (updO ρ o.dst undef) w)
  | _ => ∀ m, gK (gv ρ o.g) (iW P o.i ρ (w.drewN m) fun v w' => scrW P l r K (updO ρ o.dst v) w') (scrW P l r K (updO ρ o.dst undef) (w.drewN m))
@[congr] theorem c_scrO (P : Program) (l : List O) (k : Nat) {o o' : Option O} (h : o = o') (r : List (Nat × Nat)) (K : Env → World → Prop) (ρ : Env) (w : World) : scrO P l k o r K ρ w = scrO P l k o' r K ρ w := by rw[h]
theorem scrW_cons (P : Program) (l : List O) (k i : Nat) (r) (K) (ρ : Env) (w : World) : scrW P l ((k, i) :: r) K ρ w = scrO P l k l[i]? r K ρ w := (rfl)
theorem scrO_p (P : Program) (l : List O) (d : Nat) (i : I) (r) (K) (ρ : Env) (w : World) : scrO P l 0 (some ⟨some d, none, i⟩) r K ρ w = rW i ρ w fun v => scrW P l r K (upd ρ d v) w := (rfl)
theorem scrO_q (P : Program) (l : List O) (d : Nat) (i : I) (r) (K) (ρ : Env) (w : World) : scrO P l 1 (some ⟨some d, none, i⟩) r K ρ w = qW P i ρ w fun v => scrW P l r K (upd ρ d v) w := (rfl)
theorem scrO_f (P : Program) (l : List O) (d : Nat) (i : I) (r) (K) (ρ : Env) (w : World) : scrO P l 2 (some ⟨some d, none, i⟩) r K ρ w = ∀ m, iW P i ρ (w.drewN m) fun v w' => scrW P l r K (upd ρ d v) w' := (rfl)
theorem scrO_f0 (P : Program) (l : List O) (i : I) (r) (K) (ρ : Env) (w : World) : scrO P l 2 (some ⟨none, none, i⟩) r K ρ w = ∀ m, iW P i ρ (w.drewN m) fun v w' => scrW P l r K ρ w' := (rfl)
theorem scrO_pg (P : Program) (l : List O) (d : Nat) (g) (i : I) (r) (K) (ρ : Env) (w : World) : scrO P l 0 (some ⟨some d, some g, i⟩) r K ρ w = gB (ρ g.1) g.2 (rW i ρ w fun v => scrW P l r K (upd ρ d v) w) (scrW P l r K (upd ρ d undef) w) .mk .mk := (rfl)
theorem scrO_qg (P : Program) (l : List O) (d : Nat) (g) (i : I) (r) (K) (ρ : Env) (w : World) : scrO P l 1 (some ⟨some d, some g, i⟩) r K ρ w = gB (ρ g.1) g.2 (qW P i ρ w fun v => scrW P l r K (upd ρ d v) w) (scrW P l r K (upd ρ d undef) w) .mk .mk := (rfl)
theorem W_skip (P : Program) (K) (ρ : Env) (w : World) : S.skip.W P K ρ w = K .normal ρ w := (rfl)
theorem W_ret (P : Program) (K) (ρ : Env) (w : World) : S.ret.W P K ρ w = K .ret ρ w := (rfl)
theorem W_exit (P : Program) (i : Nat) (K) (ρ : Env) (w : World) : (S.exit i).W P K ρ w = K (.exit i) ρ w := (rfl)
theorem W_seq (P : Program) (a b : S) (K) (ρ : Env) (w : World) : (S.seq a b).W P K ρ w = a.W P (seqK (b.W P K) K) ρ w := (rfl)
theorem W_join (P : Program) (a b : S) (K) (ρ : Env) (w : World) : (S.join a b).W P K ρ w = a.W P (seqK (b.W P K) K) ρ w := (rfl)
theorem W_cond (P : Program) (c : Operand) (a b : S) (K) (ρ : Env) (w : World) : (S.cond c a b).W P K ρ w = boolK (ev ρ c) fun t => if t = true then a.W P K ρ w else b.W P K ρ w := (rfl)
theorem W_block (P : Program) (i : Nat) (b : S) (K) (ρ : Env) (w : World) : (S.block i b).W P K ρ w = b.W P (blkK i K) ρ w := (rfl)
theorem W_loop (P : Program) (b : S) (K) (ρ : Env) (w : World) : (S.loop b).W P K ρ w = loopT P b K ρ w .mk := (rfl)
theorem W_joinT (P : Program) (a b : S) (K) (ρ : Env) (w : World) : (S.join a b).W P K ρ w = joinT P a b K ρ w .mk := (rfl)
theorem seqK_normal (N K) (ρ : Env) (w : World) : seqK N K .normal ρ w = N ρ w := (rfl)
theorem seqK_exit (N K) (i : Nat) (ρ : Env) (w : World) : seqK N K (.exit i) ρ w = K (.exit i) ρ w := (rfl)
theorem seqK_ret (N K) (ρ : Env) (w : World) : seqK N K .ret ρ w = K .ret ρ w := (rfl)
theorem blkK_normal (i K) (ρ : Env) (w : World) : blkK i K .normal ρ w = K .normal ρ w := (rfl)
theorem blkK_exit (i j K) (ρ : Env) (w : World) : blkK i K (.exit j) ρ w = if j = i then K .normal ρ w else K (.exit j) ρ w := (rfl)
theorem blkK_ret (i K) (ρ : Env) (w : World) : blkK i K .ret ρ w = K .ret ρ w := (rfl)
theorem retK_normal (P : Program) (n r c K) (ρ : Env) (w : World) : retK P ⟨n, r, c⟩ K .normal ρ w = resK P r ρ w fun vs => K (packV vs) w := (rfl)
theorem retK_ret (P : Program) (n r c K) (ρ : Env) (w : World) : retK P ⟨n, r, c⟩ K .ret ρ w = resK P r ρ w fun vs => K (packV vs) w := (rfl)
theorem resK_nil (P : Program) (ρ : Env) (w : World) (K) : resK P [] ρ w K = K [] := (rfl)
theorem resK_tmp (P : Program) (t r) (ρ : Env) (w : World) (K) : resK P (.inl t :: r) ρ w K = letK (ρ t) fun v => resK P r ρ w fun vs => K (v :: vs) := (rfl)
theorem resK_cell (P : Program) (k t r) (ρ : Env) (w : World) (K) : resK P (.inr (k, t) :: r) ρ w K = ptrK (ρ t) fun p => ldK w k p fun v => resK P r ρ w fun vs => K (v :: vs) := (rfl)
theorem packV_one (v : Value) : packV [v] = v := (rfl)
theorem packV_nil : packV [] = .tuple #[] := (rfl)
theorem packV_two (u v : Value) : packV [u, v] = .tuple #[u, v] := (rfl)
theorem packV_three (u v x : Value) : packV [u, v, x] = .tuple #[u, v, x] := (rfl)
theorem packV_four (u v x y : Value) : packV [u, v, x, y] = .tuple #[u, v, x, y] := (rfl)
theorem opsW_nil (P : Program) (K) (ρ : Env) (w : World) : opsW P [] K ρ w = K ρ w := (rfl)
theorem opsW_cons (P : Program) (d : Nat) (i : I) (r : List O) (K) (ρ : Env) (w : World) : opsW P (⟨some d, none, i⟩ :: r) K ρ w = iW P i ρ w fun v w' => opsW P r K (upd ρ d v) w' := (rfl)
theorem opsW_cons0 (P : Program) (i : I) (r : List O) (K) (ρ : Env) (w : World) : opsW P (⟨none, none, i⟩ :: r) K ρ w = iW P i ρ w fun _ w' => opsW P r K ρ w' := (rfl)
theorem opsW_gd (P : Program) (d : Nat) (g : Nat × Bool) (i : I) (r : List O) (K) (ρ : Env) (w : World) : opsW P (⟨some d, some g, i⟩ :: r) K ρ w = gB (ρ g.1) g.2 (iW P i ρ w fun v w' => opsW P r K (upd ρ d v) w') (opsW P r K (upd ρ d undef) w) .mk .mk := (rfl)
theorem opsW_gd0 (P : Program) (g : Nat × Bool) (i : I) (r : List O) (K) (ρ : Env) (w : World) : opsW P (⟨none, some g, i⟩ :: r) K ρ w = gB (ρ g.1) g.2 (iW P i ρ w fun _ w' => opsW P r K ρ w') (opsW P r K ρ w) .mk .mk := (rfl)
theorem qopsW_nil (P : Program) (K) (ρ : Env) (w : World) : qopsW P w [] K ρ = K ρ := (rfl)
theorem qopsW_cons (P : Program) (d : Nat) (i : I) (r : List O) (K) (ρ : Env) (w : World) : qopsW P w (⟨some d, none, i⟩ :: r) K ρ = qW P i ρ w fun v => qopsW P w r K (upd ρ d v) := (rfl)
theorem qopsW_cons0 (P : Program) (i : I) (r : List O) (K) (ρ : Env) (w : World) : qopsW P w (⟨none, none, i⟩ :: r) K ρ = qW P i ρ w fun _ => qopsW P w r K ρ := (rfl)
theorem qopsW_gd (P : Program) (d : Nat) (g : Nat × Bool) (i : I) (r : List O) (K) (ρ : Env) (w : World) : qopsW P w (⟨some d, some g, i⟩ :: r) K ρ = gB (ρ g.1) g.2 (qW P i ρ w fun v => qopsW P w r K (upd ρ d v)) (qopsW P w r K (upd ρ d undef)) .mk .mk := (rfl)
theorem i_mv (P : Program) (x) (ρ : Env) (w : World) (K) : iW P (.mv x) ρ w K = letK (ev ρ x) fun v => K v w := (rfl)
theorem i_pick (P : Program) (c a b) (ρ : Env) (w : World) (K) : iW P (.pick c a b) ρ w K = boolK (ev ρ c) fun t => letK (if t then ev ρ a else ev ρ b) fun v => K v w := (rfl)
theorem i_ld (P : Program) (k a) (ρ : Env) (w : World) (K) : iW P (.ld k a) ρ w K = ptrK (ev ρ a) fun p => ldK w k p fun v => K v w := (rfl)
theorem i_nilc (P : Program) (x) (ρ : Env) (w : World) (K) : iW P (.nilc x) ρ w K = ptrK (ev ρ x) fun p => K (.pointer (some p)) w := (rfl)
theorem i_bin (P : Program) (op x y) (ρ : Env) (w : World) (K) : iW P (.bin op x y) ρ w K = binK op (ev ρ x) (ev ρ y) fun v => K v w := (rfl)
theorem i_eq (P : Program) (k n x y) (ρ : Env) (w : World) (K) : iW P (.eq k n x y) ρ w K = eqK k n (ev ρ x) (ev ρ y) fun v => K v w := (rfl)
theorem i_un (P : Program) (op x) (ρ : Env) (w : World) (K) : iW P (.un op x) ρ w K = unK op (ev ρ x) fun v => K v w := (rfl)
theorem i_cv (P : Program) (k x) (ρ : Env) (w : World) (K) : iW P (.cv k x) ρ w K = intK (ev ρ x) fun n => K (.int k (k.wrap n)) w := (rfl)
theorem i_fa (P : Program) (off x) (ρ : Env) (w : World) (K) : iW P (.fa off x) ρ w K = ptrK (ev ρ x) fun p => K (.pointer (some (p.add off))) w := (rfl)
theorem i_ia (P : Program) (sz x i) (ρ : Env) (w : World) (K) : iW P (.ia sz x i) ρ w K = slK (ev ρ x) fun A n _ => intK (ev ρ i) fun i => iaK sz A n i (fun v => K v w) .mk := by simp only[← iaK_eq]; rfl
theorem i_iaA (P : Program) (n sz x i) (ρ : Env) (w : World) (K) : iW P (.iaA n sz x i) ρ w K = ptrK (ev ρ x) fun p => intK (ev ρ i) fun i => 0 ≤ i ∧ i < n ∧ K (.pointer (some (p.add (i.toNat * sz)))) w := (rfl)
theorem i_ext (P : Program) (x i) (ρ : Env) (w : World) (K) : iW P (.ext x i) ρ w K = tupK (ev ρ x) i fun v => K v w := (rfl)
theorem i_len (P : Program) (x) (ρ : Env) (w : World) (K) : iW P (.len x) ρ w K = slK (ev ρ x) fun _ n _ => K (.int .i64 n) w := (rfl)
theorem i_cap (P : Program) (x) (ρ : Env) (w : World) (K) : iW P (.cap x) ρ w K = slK (ev ρ x) fun _ _ c => K (.int .i64 c) w := (rfl)
theorem i_bld (P : Program) (z pl parts) (ρ : Env) (w : World) (K) : iW P (.bld z pl parts) ρ w K = bldT z pl (parts.map fun p => (p.1, ev ρ p.2)) (fun v => K v w) .mk := (rfl)
theorem i_st (P : Program) (n a x) (ρ : Env) (w : World) (K) : iW P (.st n a x) ρ w K = ptrK (ev ρ a) fun p => stT n p (ev ρ x) w (fun w' => K undef w') .mk := (rfl)
theorem i_alloc (P : Program) (t z) (ρ : Env) (w : World) (K) : iW P (.alloc t z) ρ w K = alT z.cells t w (fun w' => K (.pointer (some ⟨w.heap.size, 0, none⟩)) w') .mk := (rfl)
theorem i_box (P : Program) (t x) (ρ : Env) (w : World) (K) : iW P (.box t x) ρ w K = letK (ev ρ x) fun v => alT v.cells t w (fun w' => K (.pointer (some ⟨w.heap.size, 0, none⟩)) w') .mk := (rfl)
theorem i_bsl (P : Program) (e sz len z parts) (ρ : Env) (w : World) (K) : iW P (.bsl e sz len z parts) ρ w K = bslT e sz len z (parts.map fun p => (p.1, ev ρ p.2)) w K .mk := (rfl)
theorem i_cpy (P : Program) (sz x y) (ρ : Env) (w : World) (K) : iW P (.cpy sz x y) ρ w K = cpyT sz (ev ρ x) (ev ρ y) w K .mk := (rfl)
theorem i_mks (P : Program) (e sz bytes z l c) (ρ : Env) (w : World) (K) : iW P (.mks e sz bytes z l c) ρ w K = intK (ev ρ l) fun l => intK (ev ρ c) fun c => 0 ≤ l ∧ l ≤ c ∧ (bytes : Int) * c ≤ 281474976710656 ∧ c ≤ 9223372036854775807 ∧
   alT (madeCells z (c.toNat * sz)) e w (fun w' => K (.slice (some ⟨w.heap.size, 0, none⟩) l.toNat c.toNat) w') .mk := (rfl)
theorem i_call (P : Program) (f args) (ρ : Env) (w : World) (K) : iW P (.call f args) ρ w K = callT P f (args.map (ev ρ)) w K .mk := (rfl)
theorem i_app (P : Program) (e sz bytes z x y) (ρ : Env) (w : World) (K) : iW P (.app e sz bytes z x y) ρ w K = appT e sz bytes z (ev ρ x) (ev ρ y) w K .mk := (rfl)
theorem i_slc (P : Program) (sz x lo hi mx) (ρ : Env) (w : World) (K) : iW P (.slc sz x lo hi mx) ρ w K = slK (ev ρ x) fun A n c => optK (lo.map (ev ρ)) fun lo => optK (hi.map (ev ρ)) fun hi => optK (mx.map (ev ρ)) fun mx =>
   0 ≤ lo.getD 0 ∧ lo.getD 0 ≤ hi.getD n ∧ hi.getD n ≤ mx.getD c ∧ mx.getD c ≤ c ∧ (mx.isSome → hi.isSome) ∧
    K (.slice (if (mx.getD c).toNat = (lo.getD 0).toNat then A else A.map (·.add ((lo.getD 0).toNat * sz))) ((hi.getD n).toNat - (lo.getD 0).toNat) ((mx.getD c).toNat - (lo.getD 0).toNat)) w := (rfl)
theorem i_sla (P : Program) (n sz x lo hi) (ρ : Env) (w : World) (K) : iW P (.sla n sz x lo hi) ρ w K = ptrK (ev ρ x) fun p => optK (lo.map (ev ρ)) fun lo => optK (hi.map (ev ρ)) fun hi =>
   0 ≤ lo.getD 0 ∧ lo.getD 0 ≤ hi.getD n ∧ hi.getD n ≤ n ∧
    K (.slice (some (if n = (lo.getD 0).toNat then p else p.add ((lo.getD 0).toNat * sz))) ((hi.getD n).toNat - (lo.getD 0).toNat) (n - (lo.getD 0).toNat)) w := (rfl)
theorem q_mv (P : Program) (x) (ρ : Env) (w : World) (K) : qW P (.mv x) ρ w K = letK (ev ρ x) K := (rfl)
theorem q_pick (P : Program) (c a b) (ρ : Env) (w : World) (K) : qW P (.pick c a b) ρ w K = boolK (ev ρ c) fun t => letK (if t then ev ρ a else ev ρ b) K := (rfl)
theorem q_ld (P : Program) (k a) (ρ : Env) (w : World) (K) : qW P (.ld k a) ρ w K = ptrK (ev ρ a) fun p => ldK w k p K := (rfl)
theorem q_nilc (P : Program) (x) (ρ : Env) (w : World) (K) : qW P (.nilc x) ρ w K = ptrK (ev ρ x) fun p => K (.pointer (some p)) := (rfl)
theorem q_bin (P : Program) (op x y) (ρ : Env) (w : World) (K) : qW P (.bin op x y) ρ w K = binK op (ev ρ x) (ev ρ y) K := (rfl)
theorem q_eq (P : Program) (k n x y) (ρ : Env) (w : World) (K) : qW P (.eq k n x y) ρ w K = eqK k n (ev ρ x) (ev ρ y) K := (rfl)
theorem q_un (P : Program) (op x) (ρ : Env) (w : World) (K) : qW P (.un op x) ρ w K = unK op (ev ρ x) K := (rfl)
theorem q_cv (P : Program) (k x) (ρ : Env) (w : World) (K) : qW P (.cv k x) ρ w K = intK (ev ρ x) fun n => K (.int k (k.wrap n)) := (rfl)
theorem q_fa (P : Program) (off x) (ρ : Env) (w : World) (K) : qW P (.fa off x) ρ w K = ptrK (ev ρ x) fun p => K (.pointer (some (p.add off))) := (rfl)
theorem q_ia (P : Program) (sz x i) (ρ : Env) (w : World) (K) : qW P (.ia sz x i) ρ w K = slK (ev ρ x) fun A n _ => intK (ev ρ i) fun i => iaK sz A n i K .mk := by simp only[← iaK_eq]; rfl
theorem q_iaA (P : Program) (n sz x i) (ρ : Env) (w : World) (K) : qW P (.iaA n sz x i) ρ w K = ptrK (ev ρ x) fun p => intK (ev ρ i) fun i => 0 ≤ i ∧ i < n ∧ K (.pointer (some (p.add (i.toNat * sz)))) := (rfl)
theorem q_ext (P : Program) (x i) (ρ : Env) (w : World) (K) : qW P (.ext x i) ρ w K = tupK (ev ρ x) i K := (rfl)
theorem q_len (P : Program) (x) (ρ : Env) (w : World) (K) : qW P (.len x) ρ w K = slK (ev ρ x) fun _ n _ => K (.int .i64 n) := (rfl)
theorem q_call (P : Program) (f args) (ρ : Env) (w : World) (K) : qW P (.call f args) ρ w K = qcallT P f (args.map (ev ρ)) w K .mk := (rfl)
theorem q_ixs (P : Program) (x i) (ρ : Env) (w : World) (K) : qW P (.ixs x i) ρ w K = strK (ev ρ x) fun s => intK (ev ρ i) fun i => ixsK s i fun v => K v := (rfl)
theorem q_lens (P : Program) (x) (ρ : Env) (w : World) (K) : qW P (.lens x) ρ w K = strK (ev ρ x) fun s => K (.int .i64 s.size) := (rfl)
theorem q_bld (P : Program) (z pl parts) (ρ : Env) (w : World) (K) : qW P (.bld z pl parts) ρ w K = bldT z pl (parts.map fun p => (p.1, ev ρ p.2)) K .mk := (rfl)
theorem i_lens (P : Program) (x) (ρ : Env) (w : World) (K) : iW P (.lens x) ρ w K = strK (ev ρ x) fun s => K (.int .i64 s.size) w := (rfl)
theorem i_ixs (P : Program) (x i) (ρ : Env) (w : World) (K) : iW P (.ixs x i) ρ w K = strK (ev ρ x) fun s => intK (ev ρ i) fun i => ixsK s i fun v => K v w := (rfl)
theorem i_sls (P : Program) (x lo hi) (ρ : Env) (w : World) (K) : iW P (.sls x lo hi) ρ w K = strK (ev ρ x) fun s => optK (lo.map (ev ρ)) fun lo => optK (hi.map (ev ρ)) fun hi =>
   0 ≤ lo.getD 0 ∧ lo.getD 0 ≤ hi.getD s.size ∧ hi.getD s.size ≤ s.size ∧ K (.string (s.extract (lo.getD 0).toNat (hi.getD s.size).toNat)) w := (rfl)
theorem i_mki (P : Program) (t x) (ρ : Env) (w : World) (K) : iW P (.mki t x) ρ w K = letK (ev ρ x) fun v => K (.iface t v) w := (rfl)
theorem i_cvss (P : Program) (x) (ρ : Env) (w : World) (K) : iW P (.cvss x) ρ w K = strK (ev ρ x) fun s => K (.string s) w := (rfl)
theorem i_apps (P : Program) (e bytes z x y) (ρ : Env) (w : World) (K) : iW P (.apps e bytes z x y) ρ w K = appsT e bytes z (ev ρ x) (ev ρ y) w K .mk := (rfl)
theorem i_appz (P : Program) (e sz bytes z x y) (ρ : Env) (w : World) (K) : iW P (.appz e sz bytes z x y) ρ w K = appzT e sz bytes z (ev ρ x) (ev ρ y) w K .mk := (rfl)
theorem i_bsl0 (P : Program) (e) (ρ : Env) (w : World) (K) : iW P (.bsl0 e) ρ w K = alT #[] e w (fun w' => K (.slice (some ⟨w.heap.size, 0, none⟩) 0 0) w') .mk := (rfl)
def aggK (v : Value) (K : Array Value → Prop) : Prop :=
 match v with
 | .agg cs => K cs
 | _ => False
@[congr] theorem c_aggK {v v' : Value} (h : v = v') (K : Array Value → Prop) : aggK v K = aggK v' K := by rw[h]
theorem aggK_val (cs : Array Value) (K : Array Value → Prop) : aggK (.agg cs) K = K cs := (rfl)
@[reducible] def ixaT (cs : Array Value) (i : Int) (w : World) (K : Value → World → Prop) (_ : Tok K) : Prop := ∃ v, cs[i.toNat]? = some v ∧ K v w
theorem i_ixa (P : Program) (n x i) (ρ : Env) (w : World) (K) : iW P (.ixa n x i) ρ w K = aggK (ev ρ x) fun cs => intK (ev ρ i) fun i => 0 ≤ i ∧ i < n ∧ ixaT cs i w K .mk := (rfl)
theorem i_rgs (P : Program) (x) (ρ : Env) (w : World) (K) : iW P (.rgs x) ρ w K = strK (ev ρ x) fun s => rgsT s w K .mk := (rfl)
theorem i_nxs (P : Program) (x) (ρ : Env) (w : World) (K) : iW P (.nxs x) ρ w K = ptrK (ev ρ x) fun p => nxsT p w K .mk := (rfl)
@[reducible] def rawT (P : Program) (op : Op) (ρ : Env) (w : World) (K : Value → World → Prop) (_ : Tok K) : Prop := ∀ o : Oper, o.op = op → runK P o (ev ρ) w K
theorem i_raw (P : Program) (op) (ρ : Env) (w : World) (K) : iW P (.raw op) ρ w K = rawT P op ρ w K .mk := (rfl)
theorem i_no (P : Program) (ρ : Env) (w : World) (K) : iW P .no ρ w K = False := (rfl)
theorem i_min2 (P : Program) (x y) (ρ : Env) (w : World) (K) : iW P (.min2 x y) ρ w K = minK (ev ρ x) (ev ρ y) fun v => K v w := (rfl)
theorem i_max2 (P : Program) (x y) (ρ : Env) (w : World) (K) : iW P (.max2 x y) ρ w K = maxK (ev ρ x) (ev ρ y) fun v => K v w := (rfl)
theorem r_mv (x) (ρ : Env) (w : World) (K) : rW (.mv x) ρ w K = letK (ev ρ x) K := (rfl)
theorem r_bin (op x y) (ρ : Env) (w : World) (K) : rW (.bin op x y) ρ w K = binK op (ev ρ x) (ev ρ y) K := (rfl)
theorem r_un (op x) (ρ : Env) (w : World) (K) : rW (.un op x) ρ w K = unK op (ev ρ x) K := (rfl)
theorem r_cv (k x) (ρ : Env) (w : World) (K) : rW (.cv k x) ρ w K = intK (ev ρ x) fun n => K (.int k (k.wrap n)) := (rfl)
theorem r_fa (off x) (ρ : Env) (w : World) (K) : rW (.fa off x) ρ w K = ptrK (ev ρ x) fun p => K (.pointer (some (p.add off))) := (rfl)
theorem r_ia (sz x i) (ρ : Env) (w : World) (K) : rW (.ia sz x i) ρ w K = slK (ev ρ x) fun A n _ => intK (ev ρ i) fun i => iaK sz A n i K .mk := by simp only[← iaK_eq]; rfl
theorem r_iaA (n sz x i) (ρ : Env) (w : World) (K) : rW (.iaA n sz x i) ρ w K = ptrK (ev ρ x) fun p => intK (ev ρ i) fun i => 0 ≤ i ∧ i < n ∧ K (.pointer (some (p.add (i.toNat * sz)))) := (rfl)
theorem r_ext (x i) (ρ : Env) (w : World) (K) : rW (.ext x i) ρ w K = tupK (ev ρ x) i K := (rfl)
theorem r_len (x) (ρ : Env) (w : World) (K) : rW (.len x) ρ w K = slK (ev ρ x) fun _ n _ => K (.int .i64 n) := (rfl)
theorem r_lens (x) (ρ : Env) (w : World) (K) : rW (.lens x) ρ w K = strK (ev ρ x) fun s => K (.int .i64 s.size) := (rfl)
theorem r_nilc (x) (ρ : Env) (w : World) (K) : rW (.nilc x) ρ w K = ptrK (ev ρ x) fun p => K (.pointer (some p)) := (rfl)
theorem r_eq (k n x y) (ρ : Env) (w : World) (K) : rW (.eq k n x y) ρ w K = eqK k n (ev ρ x) (ev ρ y) K := (rfl)
theorem r_bld (z pl parts) (ρ : Env) (w : World) (K) : rW (.bld z pl parts) ρ w K = bldT z pl (parts.map fun p => (p.1, ev ρ p.2)) K .mk := (rfl)
theorem r_slc (sz x lo hi mx) (ρ : Env) (w : World) (K) : rW (.slc sz x lo hi mx) ρ w K = slK (ev ρ x) fun A n c => optK (lo.map (ev ρ)) fun lo => optK (hi.map (ev ρ)) fun hi => optK (mx.map (ev ρ)) fun mx =>
   0 ≤ lo.getD 0 ∧ lo.getD 0 ≤ hi.getD n ∧ hi.getD n ≤ mx.getD c ∧ mx.getD c ≤ c ∧ (mx.isSome → hi.isSome) ∧
    K (.slice (if (mx.getD c).toNat = (lo.getD 0).toNat then A else A.map (·.add ((lo.getD 0).toNat * sz))) ((hi.getD n).toNat - (lo.getD 0).toNat) ((mx.getD c).toNat - (lo.getD 0).toNat)) := (rfl)
theorem strK_val (s : ByteArray) (K) : strK (.string s) K = K s := (rfl)
theorem minK_val (k k' : IntKind) (a b : Int) (K) : minK (.int k a) (.int k' b) K = K (.int k (if b < a then b else a)) := (rfl)
theorem maxK_val (k k' : IntKind) (a b : Int) (K) : maxK (.int k a) (.int k' b) K = K (.int k (if a < b then b else a)) := (rfl)
theorem letK_val (v : Value) (K : Value → Prop) : letK v K = K v := (rfl)
theorem boolK_val (b : Bool) (K) : boolK (.bool b) K = K b := (rfl)
theorem intK_val (k : IntKind) (n : Int) (K) : intK (.int k n) K = K n := (rfl)
theorem ptrK_val (p : Addr) (K) : ptrK (.pointer (some p)) K = K p := (rfl)
theorem slK_val (A : Option Addr) (n c : Nat) (K) : slK (.slice A n c) K = K A n c := (rfl)
theorem tupK_20 (a b : Value) (K) : tupK (.tuple #[a, b]) 0 K = K a := (rfl)
theorem tupK_21 (a b : Value) (K) : tupK (.tuple #[a, b]) 1 K = K b := (rfl)
theorem tupK_30 (a b c : Value) (K) : tupK (.tuple #[a, b, c]) 0 K = K a := (rfl)
theorem tupK_31 (a b c : Value) (K) : tupK (.tuple #[a, b, c]) 1 K = K b := (rfl)
theorem tupK_32 (a b c : Value) (K) : tupK (.tuple #[a, b, c]) 2 K = K c := (rfl)
theorem tupK_40 (a b c d : Value) (K) : tupK (.tuple #[a, b, c, d]) 0 K = K a := (rfl)
theorem tupK_41 (a b c d : Value) (K) : tupK (.tuple #[a, b, c, d]) 1 K = K b := (rfl)
theorem tupK_42 (a b c d : Value) (K) : tupK (.tuple #[a, b, c, d]) 2 K = K c := (rfl)
theorem tupK_43 (a b c d : Value) (K) : tupK (.tuple #[a, b, c, d]) 3 K = K d := (rfl)
theorem optK_none (K) : optK none K = K none := (rfl)
theorem optK_some (k : IntKind) (n : Int) (K) : optK (some (.int k n)) K = K (some n) := (rfl)
theorem ld_int (w : World) (k p K) : ldK w (.int k) p K = ldC (.int k) (w.cell? p) K .mk := by
 apply propext
 constructor
 ·rintro ⟨x, hx, h⟩; rw[hx]; exact ⟨rfl, h⟩
 ·intro h; unfold ldC at h
  split at h <;> first | (cases h; done) | skip
  all_goals first | (rename_i hk hc; cases hk; exact ⟨_, hc.trans (by rw[h.1]), h.2⟩) | exact h.elim | (rename_i hk _; cases hk)
theorem ld_bool (w : World) (p K) : ldK w .bool p K = ldC .bool (w.cell? p) K .mk := by
 apply propext
 constructor
 ·rintro ⟨x, hx, h⟩; rw[hx]; exact h
 ·intro h; unfold ldC at h
  split at h <;> first | exact h.elim | (rename_i hk hc; cases hk; done) | (rename_i hk hc; exact ⟨_, hc, h⟩) | (rename_i hc; exact ⟨_, hc, h⟩)
theorem ld_string (w : World) (p K) : ldK w .string p K = ldC .string (w.cell? p) K .mk := by
 apply propext
 constructor
 ·rintro ⟨x, hx, h⟩; rw[hx]; exact h
 ·intro h; unfold ldC at h
  split at h <;> first | exact h.elim | (rename_i hk hc; cases hk; done) | (rename_i hk hc; exact ⟨_, hc, h⟩) | (rename_i hc; exact ⟨_, hc, h⟩)
theorem ld_pointer (w : World) (p K) : ldK w .pointer p K = ldC .pointer (w.cell? p) K .mk := by
 apply propext
 constructor
 ·rintro ⟨x, hx, h⟩; rw[hx]; exact h
 ·intro h; unfold ldC at h
  split at h <;> first | exact h.elim | (rename_i hk hc; cases hk; done) | (rename_i hk hc; exact ⟨_, hc, h⟩) | (rename_i hc; exact ⟨_, hc, h⟩)
theorem ld_slice (w : World) (p K) : ldK w .slice p K = ldC .slice (w.cell? p) K .mk := by
 apply propext
 constructor
 ·rintro ⟨a, n, c, hx, h⟩; rw[hx]; exact h
 ·intro h; unfold ldC at h
  split at h <;> first | exact h.elim | (rename_i hk hc; cases hk; done) | (rename_i hk hc; exact ⟨_, _, _, hc, h⟩) | (rename_i hc; exact ⟨_, _, _, hc, h⟩)
theorem ld_agg (w : World) (n p K) : ldK w (.agg n) p K = ldT w n p K .mk := (rfl)
theorem ld_other (w : World) (p K) : ldK w .other p K = ldC .other (w.cell? p) K .mk := by
 apply propext
 constructor
 ·rintro ⟨x, hx, h⟩; rw[hx]; exact h
 ·intro h; unfold ldC at h
  split at h <;> first | exact h.elim | (rename_i hk hc; cases hk; done) | (rename_i hk hc; exact ⟨_, hc, h⟩) | (rename_i hc; exact ⟨_, hc, h⟩)
theorem b_add (k : IntKind) (a b : Int) (K) : binK .add (.int k a) (.int k b) K = K (.int k (k.wrap (a + b))) := by simp[binK,ibin]
theorem b_sub (k : IntKind) (a b : Int) (K) : binK .sub (.int k a) (.int k b) K = K (.int k (k.wrap (a - b))) := by simp[binK,ibin]
theorem b_mul (k : IntKind) (a b : Int) (K) : binK .mul (.int k a) (.int k b) K = K (.int k (k.wrap (a * b))) := by simp[binK,ibin]
theorem b_quo (k : IntKind) (a b : Int) (K) : binK .quo (.int k a) (.int k b) K = (b ≠ 0 ∧ K (.int k (k.wrap (a.tdiv b)))) := by simp[binK,ibin]
theorem b_rem (k : IntKind) (a b : Int) (K) : binK .rem (.int k a) (.int k b) K = (b ≠ 0 ∧ K (.int k (a.tmod b))) := by simp[binK,ibin]
theorem b_and (k : IntKind) (a b : Int) (K) : binK .and (.int k a) (.int k b) K = K (.int k (bits .and k a b)) := by simp[binK,ibin]
theorem b_or (k : IntKind) (a b : Int) (K) : binK .or (.int k a) (.int k b) K = K (.int k (bits .or k a b)) := by simp[binK,ibin]
theorem b_xor (k : IntKind) (a b : Int) (K) : binK .xor (.int k a) (.int k b) K = K (.int k (bits .xor k a b)) := by simp[binK,ibin]
theorem b_andNot (k : IntKind) (a b : Int) (K) : binK .andNot (.int k a) (.int k b) K = K (.int k (bits .andNot k a b)) := by simp[binK,ibin]
theorem b_eql (k : IntKind) (a b : Int) (K) : binK .eql (.int k a) (.int k b) K = K (.bool (decide (a = b))) := by simp[binK,ibin]
theorem b_neq (k : IntKind) (a b : Int) (K) : binK .neq (.int k a) (.int k b) K = K (.bool (decide (a ≠ b))) := by simp only[binK,ibin]; simp
theorem b_lss (k : IntKind) (a b : Int) (K) : binK .lss (.int k a) (.int k b) K = K (.bool (decide (a < b))) := by simp[binK,ibin]
theorem b_leq (k : IntKind) (a b : Int) (K) : binK .leq (.int k a) (.int k b) K = K (.bool (decide (a ≤ b))) := by simp[binK,ibin]
theorem b_gtr (k : IntKind) (a b : Int) (K) : binK .gtr (.int k a) (.int k b) K = K (.bool (decide (b < a))) := by simp[binK,ibin]
theorem b_geq (k : IntKind) (a b : Int) (K) : binK .geq (.int k a) (.int k b) K = K (.bool (decide (b ≤ a))) := by simp[binK,ibin]
theorem b_shl (k k' : IntKind) (a b : Int) (K) : binK .shl (.int k a) (.int k' b) K = (0 ≤ b ∧ K (.int k (k.wrap (a * 2 ^ (min b.toNat k.bits))))) := (rfl)
theorem b_shr (k k' : IntKind) (a b : Int) (K) : binK .shr (.int k a) (.int k' b) K = (0 ≤ b ∧ K (.int k (a.fdiv (2 ^ (min b.toNat k.bits))))) := (rfl)
theorem b_seql (a b : ByteArray) (K) : binK .eql (.string a) (.string b) K = K (.bool (a.toList == b.toList)) := (rfl)
theorem b_sadd (a b : ByteArray) (K) : binK .add (.string a) (.string b) K = (a.size + b.size ≤ 9223372036854775807 ∧ K (.string (a ++ b))) := (rfl)
theorem e_bool_f (a b : Bool) (K) : eqK .bool false (.bool a) (.bool b) K = K (.bool (decide (a = b))) := by
 show K (.bool ((a == b) ^^ false)) = _
 cases a <;> cases b <;> rfl
theorem e_bool_t (a b : Bool) (K) : eqK .bool true (.bool a) (.bool b) K = K (.bool (decide (a ≠ b))) := by
 show K (.bool ((a == b) ^^ true)) = _
 cases a <;> cases b <;> rfl
theorem e_ptr0 (n : Bool) (b : Option Addr) (K) : eqK .pointer n (.pointer none) (.pointer b) K = K (.bool (b.isNone ^^ n)) := (rfl)
theorem e_ptr1 (n : Bool) (p : Addr) (K) : eqK .pointer n (.pointer (some p)) (.pointer none) K = K (.bool n) := (rfl)
theorem u_not (b : Bool) (K) : unK .not (.bool b) K = K (.bool !b) := (rfl)
theorem u_neg (k : IntKind) (n : Int) (K) : unK .neg (.int k n) K = K (.int k (k.wrap (0 - n))) := (rfl)
theorem u_xor (k : IntKind) (n : Int) (K) : unK .xor (.int k n) K = K (.int k (bits .xor k (if k.signed then -1 else k.max) n)) := (rfl)
theorem bits_u8 : IntKind.bits .u8 = 8 := (rfl)
theorem bits_u32 : IntKind.bits .u32 = 32 := (rfl)
theorem bits_u64 : IntKind.bits .u64 = 64 := (rfl)
theorem bits_i64 : IntKind.bits .i64 = 64 := (rfl)
theorem env0_zero (a : Value) (l : List Value) : env0 (a :: l) 0 = a := (rfl)
theorem env0_succ (a : Value) (l : List Value) (t : Nat) : env0 (a :: l) (t + 1) = env0 l t := (rfl)
def endK (N : Env → World → Prop) (ρ : Env) (w : World) : Prop := N ρ w
theorem boolK_mono {v : Value} {K K' : Bool → Prop} (h : boolK v K) (hk : ∀ v, K v → K' v) : boolK v K' := by obtain ⟨b, rfl, h⟩ := boolK_elim h; exact hk _ h
theorem intK_mono {v : Value} {K K' : Int → Prop} (h : intK v K) (hk : ∀ v, K v → K' v) : intK v K' := by obtain ⟨k, b, rfl, h⟩ := intK_elim h; exact hk _ h
theorem ptrK_mono {v : Value} {K K' : Addr → Prop} (h : ptrK v K) (hk : ∀ v, K v → K' v) : ptrK v K' := by obtain ⟨b, rfl, h⟩ := ptrK_elim h; exact hk _ h
theorem strK_mono {v : Value} {K K' : ByteArray → Prop} (h : strK v K) (hk : ∀ v, K v → K' v) : strK v K' := by obtain ⟨b, rfl, h⟩ := strK_elim h; exact hk _ h
theorem slK_mono {v : Value} {K K' : Option Addr → Nat → Nat → Prop} (h : slK v K) (hk : ∀ a n c, K a n c → K' a n c) : slK v K' := by obtain ⟨a, n, c, rfl, h⟩ := slK_elim h; exact hk _ _ _ h
theorem tupK_mono {v : Value} {i : Nat} {K K' : Value → Prop} (h : tupK v i K) (hk : ∀ v, K v → K' v) : tupK v i K' := by
 obtain ⟨vs, u, rfl, hu, h⟩ := tupK_elim h
 unfold tupK; simp only[hu]; exact hk _ h
theorem optK_mono {v : Option Value} {K K' : Option Int → Prop} (h : optK v K) (hk : ∀ v, K v → K' v) : optK v K' := by
 rcases optK_elim h with ⟨rfl, h⟩ | ⟨k, n, rfl, h⟩ <;> exact hk _ h
theorem ldK_mono {w : World} {k : TyK} {p : Addr} {K K' : Value → Prop} (h : ldK w k p K) (hk : ∀ v, K v → K' v) : ldK w k p K' := by
 cases k with
 | int k => obtain ⟨x, hx, h⟩ := h; exact ⟨x, hx, hk _ h⟩
 | bool => obtain ⟨x, hx, h⟩ := h; exact ⟨x, hx, hk _ h⟩
 | string => obtain ⟨x, hx, h⟩ := h; exact ⟨x, hx, hk _ h⟩
 | pointer => obtain ⟨x, hx, h⟩ := h; exact ⟨x, hx, hk _ h⟩
 | slice => obtain ⟨x, y, z, hx, h⟩ := h; exact ⟨x, y, z, hx, hk _ h⟩
 | agg n => obtain ⟨x, hx, hy, h⟩ := h; exact ⟨x, hx, hy, hk _ h⟩
 | other => obtain ⟨x, hx, h⟩ := h; exact ⟨x, hx, hk _ h⟩
theorem binK_mono {op : BinOp} {x y : Value} {K K' : Value → Prop} (h : binK op x y K) (hk : ∀ v, K v → K' v) : binK op x y K' := by
 unfold binK at *
 split at h
 ·exact ⟨h.1, hk _ h.2⟩
 ·exact ⟨h.1, hk _ h.2⟩
 ·refine ⟨h.1, ?_⟩
  have h := h.2
  rename_i op _ _ _ _ _ _
  unfold ibin at *
  split at h <;> first | exact hk _ h | exact ⟨h.1, hk _ h.2⟩ | exact h.elim
 ·exact hk _ h
 ·exact hk _ h
 ·exact ⟨h.1, hk _ h.2⟩
 ·exact h.elim
theorem eqK_mono {k : TyK} {n : Bool} {x y : Value} {K K' : Value → Prop} (h : eqK k n x y K) (hk : ∀ v, K v → K' v) : eqK k n x y K' := by
 unfold eqK at *
 split at h <;> first | exact hk _ h | exact h.elim
theorem unK_mono {op : UnOp} {x : Value} {K K' : Value → Prop} (h : unK op x K) (hk : ∀ v, K v → K' v) : unK op x K' := by
 unfold unK at *
 split at h <;> first | exact hk _ h | exact h.elim
theorem rW_mono {i : I} {ρ : Env} {w : World} {K K' : Value → Prop} (h : rW i ρ w K) (hk : ∀ v, K v → K' v) : rW i ρ w K' := by
 cases i <;> first
  | exact h.elim
  | exact hk _ h
  | exact boolK_mono h fun _ h => hk _ h
  | exact ptrK_mono h fun _ h => ldK_mono h hk
  | exact ptrK_mono h fun _ h => hk _ h
  | exact binK_mono h hk
  | exact eqK_mono h hk
  | exact unK_mono h hk
  | exact intK_mono h fun _ h => hk _ h
  | exact slK_mono h fun _ _ _ h => hk _ h
  | exact strK_mono h fun _ h => hk _ h
  | exact tupK_mono h hk
  | exact slK_mono h fun _ _ _ h => optK_mono h fun _ h => optK_mono h fun _ h => optK_mono h fun _ h => ⟨h.1, h.2.1, h.2.2.1, h.2.2.2.1, h.2.2.2.2.1, hk _ h.2.2.2.2.2⟩
  | exact ptrK_mono h fun _ h => optK_mono h fun _ h => optK_mono h fun _ h => ⟨h.1, h.2.1, h.2.2.1, hk _ h.2.2.2⟩
  | exact strK_mono h fun _ h => optK_mono h fun _ h => optK_mono h fun _ h => ⟨h.1, h.2.1, h.2.2.1, hk _ h.2.2.2⟩
  | exact slK_mono h fun _ _ _ h => intK_mono h fun _ ⟨p, h1, h2, h3, h⟩ => ⟨p, h1, h2, h3, hk _ h⟩
  | exact ptrK_mono h fun _ h => intK_mono h fun _ ⟨h2, h3, h⟩ => ⟨h2, h3, hk _ h⟩
  | exact strK_mono h fun _ h => intK_mono h fun _ ⟨h2, h3, h⟩ => ⟨h2, h3, hk _ h⟩
  | exact slK_mono h fun _ _ _ ⟨xs, h1, h2, h⟩ => ⟨xs, h1, h2, hk _ h⟩
  | (obtain ⟨cs, h1, h⟩ := h; exact ⟨cs, h1, hk _ h⟩)
  | (simp only[rW] at *; split at h <;> first | exact hk _ h | exact h.elim)
  | (simp only[rW] at *; split at h <;> first | exact (intK_mono h fun _ ⟨h1, h2, v, h3, h⟩ => ⟨h1, h2, v, h3, hk _ h⟩) | exact h.elim)
theorem appC_mono {e sz bytes : Nat} {z : Array Value} {A : Option Addr} {n c m : Nat} {new : List Value} {w : World} {K K' : Value → World → Prop} (h : appC e sz bytes z A n c m new w K) (hk : ∀ v w', K v w' → K' v w') : appC e sz bytes z A n c m new w K' := by
 obtain ⟨h1, h2⟩ := h
 refine ⟨fun hc => ?_, fun hc => ?_⟩
 ·rcases h1 hc with ⟨hm, h⟩ | ⟨b, o, ha, hb, hcc, hd, h⟩
  ·exact .inl ⟨hm, hk _ _ h⟩
  ·exact .inr ⟨b, o, ha, hb, hcc, hd, hk _ _ h⟩
 ·obtain ⟨old, ha, hb, hcc, hd, he, h⟩ := h2 hc
  exact ⟨old, ha, hb, hcc, hd, he, fun c' x y => hk _ _ (h c' x y)⟩
theorem stK_mono {n : Nat} {p : Addr} {v : Value} {w : World} {K K' : World → Prop} (h : stK n p v w K) (hk : ∀ w', K w' → K' w') : stK n p v w K' := by
 obtain ⟨h1, h⟩ := h
 refine ⟨h1, ?_⟩
 rcases h with ⟨a, b, c, h⟩ | ⟨cs, a, b, c, d, e, h⟩
 ·exact .inl ⟨a, b, c, hk _ h⟩
 ·exact .inr ⟨cs, a, b, c, d, e, hk _ h⟩
def rdI : I → Bool
 | .st .. | .alloc .. | .box .. | .bsl .. | .mks .. | .app .. | .apps .. | .appz .. | .bsl0 .. | .cvid .. | .cpy .. | .call .. | .rgs .. | .nxs .. | .raw .. => false
 | _ => true
theorem iW_rd {P : Program} {i : I} (hi : rdI i = true) (ρ : Env) (w : World) (K : Value → World → Prop) : iW P i ρ w K = rW i ρ w fun v => K v w := by
 cases i <;> first | rfl | cases hi
theorem iW_mono {P : Program} {i : I} {ρ : Env} {w : World} {K K' : Value → World → Prop} (h : iW P i ρ w K) (hk : ∀ v w', K v w' → K' v w') : iW P i ρ w K' := by
 by_cases hi : rdI i = true
 ·rw[iW_rd hi] at *; exact rW_mono h fun v h => hk v w h
 cases i <;> first
  | exact h.elim
  | exact absurd rfl hi
  | exact hk _ _ h
  | exact callK_mono h hk
  | exact fun o e => runK_mono (h o e) hk
  | exact ptrK_mono h fun _ h => stK_mono h fun _ h => hk _ _ h
  | exact slK_mono h fun _ _ _ h => slK_mono h fun _ _ _ ⟨new, h1, h2, h⟩ => ⟨new, h1, h2, appC_mono h hk⟩
  | exact slK_mono h fun _ _ _ h => strK_mono h fun _ h => appC_mono h hk
  | exact slK_mono h fun _ _ _ h => intK_mono h fun _ ⟨h1, h2, h3, h4, h⟩ => ⟨h1, h2, h3, h4, appC_mono h hk⟩
  | exact slK_mono h fun _ _ _ ⟨a, h1, h⟩ => ⟨a, h1, hk _ _ h⟩
  | exact intK_mono h fun _ h => intK_mono h fun _ ⟨h1, h2, h3, h4, h⟩ => ⟨h1, h2, h3, h4, hk _ _ h⟩
  | (obtain ⟨cs, h1, h⟩ := h; exact ⟨cs, h1, hk _ _ h⟩)
  | exact strK_mono h fun _ h => hk _ _ h
  | exact ptrK_mono h fun _ ⟨h0, s, pos, h1, h2, h3⟩ => ⟨h0, s, pos, h1, fun g => hk _ _ (h2 g), fun g => hk _ _ (h3 g)⟩
  | (simp only[iW] at *; split at h <;> first
    | (obtain ⟨new, h1, h2, h3⟩ := h; exact ⟨new, h1, fun h0 => (let ⟨p, b, o, a1, a2, a3, a4, a5, a6, a7⟩ := h2 h0; ⟨p, b, o, a1, a2, a3, a4, a5, a6, hk _ _ a7⟩), fun h0 => hk _ _ (h3 h0)⟩)
    | exact h.elim)
theorem qW_rd {P : Program} {i : I} (hi : ∀ f a, i ≠ .call f a) (ρ : Env) (w : World) (K : Value → Prop) : qW P i ρ w K = rW i ρ w K := by
 cases i <;> first | rfl | exact absurd rfl (hi _ _)
theorem qW_mono {P : Program} {i : I} {ρ : Env} {w : World} {K K' : Value → Prop} (h : qW P i ρ w K) (hk : ∀ v, K v → K' v) : qW P i ρ w K' := by
 by_cases hi : ∀ f a, i ≠ .call f a
 ·rw[qW_rd hi] at *; exact rW_mono h hk
 ·have ⟨f, a, e⟩ : ∃ f a, i = .call f a := by
   apply Classical.byContradiction; intro hn; exact hi fun f a e => hn ⟨f, a, e⟩
  subst e
  obtain ⟨v, h1, h⟩ := h; exact ⟨v, h1, hk _ h⟩
def wrL (l : List O) (t : Nat) : Bool := l.any fun o => o.dst == some t
def wr : S → Nat → Bool
 | .ops l, t | .draw _ l, t | .drawS _ l, t | .drawT _ l, t => wrL l t
 | .seq a b, t | .join a b, t | .cond _ a b, t => wr a t || wr b t
 | .block _ b, t | .loop b, t => wr b t
 | _, _ => false
theorem updO_out {ρ : Env} {d : Option Nat} {v : Value} {t : Nat} (h : (d == some t) = false) : updO ρ d v t = ρ t := by
 cases d with
 | none => rfl
 | some d => have : d ≠ t := by simpa using h
             simp[updO,upd,Ne.symm this]
theorem opsW_frame {P : Program} : ∀ (l : List O) {K K' : Env → World → Prop} {ρ : Env} {w : World}, opsW P l K ρ w → (∀ ρ' w', (∀ t, wrL l t = false → ρ' t = ρ t) → K ρ' w' → K' ρ' w') → opsW P l K' ρ w
 | [], K, K', ρ, w, h, hk => hk _ _ (fun _ _ => rfl) h
 | o :: r, K, K', ρ, w, h, hk => by
  have go : ∀ v w', opsW P r K (updO ρ o.dst v) w' → opsW P r K' (updO ρ o.dst v) w' := fun v w' h => opsW_frame r h fun ρ' w'' hf hK => hk _ _ (fun t ht => by
   simp only[wrL,List.any_cons,Bool.or_eq_false_iff] at ht
   rw[hf t ht.2,updO_out ht.1]) hK
  simp only[opsW,gK] at *
  split at h
  ·rename_i hg; rw[if_pos hg]; exact iW_mono h go
  ·rename_i hg; rw[if_neg hg]; exact go _ _ h
theorem qopsW_frame {P : Program} {w : World} : ∀ (l : List O) {K K' : Env → Prop} {ρ : Env}, qopsW P w l K ρ → (∀ ρ', (∀ t, wrL l t = false → ρ' t = ρ t) → K ρ' → K' ρ') → qopsW P w l K' ρ
 | [], K, K', ρ, h, hk => hk _ (fun _ _ => rfl) h
 | o :: r, K, K', ρ, h, hk => by
  have go : ∀ v, qopsW P w r K (updO ρ o.dst v) → qopsW P w r K' (updO ρ o.dst v) := fun v h => qopsW_frame r h fun ρ' hf hK => hk _ (fun t ht => by
   simp only[wrL,List.any_cons,Bool.or_eq_false_iff] at ht
   rw[hf t ht.2,updO_out ht.1]) hK
  simp only[qopsW,gK] at *
  split at h
  ·rename_i hg; rw[if_pos hg]; exact qW_mono h go
  ·rename_i hg; rw[if_neg hg]; exact go _ h
theorem scrW_frame {P : Program} {l : List O} : ∀ (s : List (Nat × Nat)) {K K' : Env → World → Prop} {ρ : Env} {w : World}, scrW P l s K ρ w → (∀ ρ' w', (∀ t, wrL l t = false → ρ' t = ρ t) → K ρ' w' → K' ρ' w') → scrW P l s K' ρ w
 | [], K, K', ρ, w, h, hk => fun m => hk _ _ (fun _ _ => rfl) (h m)
 | (k, i) :: r, K, K', ρ, w, h, hk => by
  simp only[scrW] at *
  split at h
  ·exact h.elim
  ·rename_i o ho
   have ho' : ∀ t, wrL l t = false → (o.dst == some t) = false := fun t ht => by
    simp only[wrL,List.any_eq_false] at ht
    have := ht o (List.mem_of_getElem? ho)
    simpa using this
   have go : ∀ v w', scrW P l r K (updO ρ o.dst v) w' → scrW P l r K' (updO ρ o.dst v) w' := fun v w' h => scrW_frame r h fun ρ' w'' hf hK => hk _ _ (fun t ht => by
    rw[hf t ht,updO_out (ho' t ht)]) hK
   split at h
   ·simp only[gK] at *
    split at h
    ·rename_i hg; rw[if_pos hg]; exact rW_mono h fun v h => go v w h
    ·rename_i hg; rw[if_neg hg]; exact go _ _ h
   ·simp only[gK] at *
    split at h
    ·rename_i hg; rw[if_pos hg]; exact qW_mono h fun v h => go v w h
    ·rename_i hg; rw[if_neg hg]; exact go _ _ h
   ·intro m
    have h := h m
    simp only[gK] at *
    split at h
    ·rename_i hg; rw[if_pos hg]; exact iW_mono h go
    ·rename_i hg; rw[if_neg hg]; exact go _ _ h
theorem fltK_mono {i : I} {ρ : Env} {w : World} {K K' : TyK → Addr → Value → Prop} (h : fltK i ρ w K) (hk : ∀ k p v, K k p v → K' k p v) : fltK i ρ w K' := by
 unfold fltK at *
 split at h
 ·exact ptrK_mono h fun p h => ldK_mono h fun v h => hk _ _ _ h
 ·exact h.elim
theorem scrT_frame {P : Program} {l : List O} : ∀ (t : Scr) {cs : List (TyK × Addr × Value)} {K K' : Env → World → Prop} {ρ : Env} {w : World}, scrT P l t cs K ρ w → (∀ ρ' w', (∀ t, wrL l t = false → ρ' t = ρ t) → K ρ' w' → K' ρ' w') → scrT P l t cs K' ρ w
 | .nil, cs, K, K', ρ, w, h, hk => fun m => hk _ _ (fun _ _ => rfl) (h m)
 | .st k i r, cs, K, K', ρ, w, h, hk => by
  simp only[scrT] at *
  split at h
  ·exact h.elim
  ·rename_i o ho
   have ho' : ∀ t, wrL l t = false → (o.dst == some t) = false := fun t ht => by
    simp only[wrL,List.any_eq_false] at ht
    have := ht o (List.mem_of_getElem? ho)
    simpa using this
   have go : ∀ cs v w', scrT P l r cs K (updO ρ o.dst v) w' → scrT P l r cs K' (updO ρ o.dst v) w' := fun cs v w' h => scrT_frame r h fun ρ' w'' hf hK => hk _ _ (fun t ht => by
    rw[hf t ht,updO_out (ho' t ht)]) hK
   split at h
   ·simp only[gK] at *
    split at h
    ·rename_i hg; rw[if_pos hg]; exact rW_mono h fun v h => go cs v w h
    ·rename_i hg; rw[if_neg hg]; exact go _ _ _ h
   ·simp only[gK] at *
    split at h
    ·rename_i hg; rw[if_pos hg]; exact qW_mono h fun v h => go cs v w h
    ·rename_i hg; rw[if_neg hg]; exact go _ _ _ h
   ·simp only[gK] at *
    split at h
    ·rename_i hg; rw[if_pos hg]; exact fltK_mono h fun k p v h => go _ v w h
    ·rename_i hg; rw[if_neg hg]; exact go _ _ _ h
 | .one i r, cs, K, K', ρ, w, h, hk => by
  simp only[scrT] at *
  split at h
  ·exact h.elim
  ·rename_i o ho
   have ho' : ∀ t, wrL l t = false → (o.dst == some t) = false := fun t ht => by
    simp only[wrL,List.any_eq_false] at ht
    have := ht o (List.mem_of_getElem? ho)
    simpa using this
   have go : ∀ cs v w', scrT P l r cs K (updO ρ o.dst v) w' → scrT P l r cs K' (updO ρ o.dst v) w' := fun cs v w' h => scrT_frame r h fun ρ' w'' hf hK => hk _ _ (fun t ht => by
    rw[hf t ht,updO_out (ho' t ht)]) hK
   intro m
   have h := h m
   simp only[gK] at *
   split at h
   ·rename_i hg; rw[if_pos hg]; exact iW_mono h fun v w' h => ⟨h.1, go _ _ _ h.2⟩
   ·rename_i hg; rw[if_neg hg]; exact ⟨h.1, go _ _ _ h.2⟩
 | .more i r c, cs, K, K', ρ, w, h, hk => by
  simp only[scrT] at *
  refine ⟨?_, scrT_frame c h.2 hk⟩
  have h := h.1
  split at h
  ·exact h.elim
  ·rename_i o ho
   have ho' : ∀ t, wrL l t = false → (o.dst == some t) = false := fun t ht => by
    simp only[wrL,List.any_eq_false] at ht
    have := ht o (List.mem_of_getElem? ho)
    simpa using this
   have go : ∀ cs v w', scrT P l r cs K (updO ρ o.dst v) w' → scrT P l r cs K' (updO ρ o.dst v) w' := fun cs v w' h => scrT_frame r h fun ρ' w'' hf hK => hk _ _ (fun t ht => by
    rw[hf t ht,updO_out (ho' t ht)]) hK
   intro m
   have h := h m
   simp only[gK] at *
   split at h
   ·rename_i hg; rw[if_pos hg]; exact iW_mono h fun v w' h => ⟨h.1, go _ _ _ h.2⟩
   ·rename_i hg; rw[if_neg hg]; exact ⟨h.1, go _ _ _ h.2⟩
 | .cov c, cs, K, K', ρ, w, h, hk => scrT_frame c h hk
theorem seqK_all {N N' : Env → World → Prop} {K K' : Exit → Env → World → Prop} {e : Exit} {ρ : Env} {w : World} (h : seqK N K e ρ w) (hn : N ρ w → N' ρ w) (hk : K e ρ w → K' e ρ w) : seqK N' K' e ρ w := by
 cases e <;> first | exact hn h | exact hk h
theorem W_frame {P : Program} : ∀ (s : S) {K K' : Exit → Env → World → Prop} {ρ : Env} {w : World}, s.W P K ρ w → (∀ e ρ' w', (∀ t, wr s t = false → ρ' t = ρ t) → K e ρ' w' → K' e ρ' w') → s.W P K' ρ w := by
 intro s
 induction s with
 | ops l => intro K K' ρ w h hk; exact opsW_frame l h fun ρ' w' hf hK => hk _ _ _ hf hK
 | draw n l =>
  intro K K' ρ w h hk
  refine qopsW_frame (l.take n) h fun ρ' hf hK m => opsW_frame (l.drop n) (hK m) fun ρ'' w' hf' hK => hk _ _ _ (fun t ht => ?_) hK
  have hall : ∀ x ∈ l, (x.dst == some t) = false := fun x hx => by
   have : wrL l t = false := ht
   simp only[wrL,List.any_eq_false] at this
   simpa using this x hx
  have h1 : wrL (l.take n) t = false := by simp only[wrL,List.any_eq_false]; intro x hx; simpa using hall x (List.mem_of_mem_take hx)
  have h2 : wrL (l.drop n) t = false := by simp only[wrL,List.any_eq_false]; intro x hx; simpa using hall x (List.mem_of_mem_drop hx)
  rw[hf' t h2,hf t h1]
 | drawS s l => intro K K' ρ w h hk; exact scrW_frame s h fun ρ' w' hf hK => hk _ _ _ hf hK
 | drawT t l => intro K K' ρ w h hk; exact scrT_frame t h fun ρ' w' hf hK => hk _ _ _ hf hK
 | skip => intro K K' ρ w h hk; exact hk _ _ _ (fun _ _ => rfl) h
 | ret => intro K K' ρ w h hk; exact hk _ _ _ (fun _ _ => rfl) h
 | exit id => intro K K' ρ w h hk; exact hk _ _ _ (fun _ _ => rfl) h
 | seq a b iha ihb =>
  intro K K' ρ w h hk
  refine iha h fun e ρ' w' hf h' => seqK_all h' (fun h'' => ihb h'' fun e ρ'' w'' hf' hK => hk _ _ _ (fun t ht => ?_) hK) (fun h'' => hk _ _ _ (fun t ht => ?_) h'')
  ·simp only[wr,Bool.or_eq_false_iff] at ht; rw[hf' t ht.2,hf t ht.1]
  ·simp only[wr,Bool.or_eq_false_iff] at ht; rw[hf t ht.1]
 | join a b iha ihb =>
  intro K K' ρ w h hk
  refine iha h fun e ρ' w' hf h' => seqK_all h' (fun h'' => ihb h'' fun e ρ'' w'' hf' hK => hk _ _ _ (fun t ht => ?_) hK) (fun h'' => hk _ _ _ (fun t ht => ?_) h'')
  ·simp only[wr,Bool.or_eq_false_iff] at ht; rw[hf' t ht.2,hf t ht.1]
  ·simp only[wr,Bool.or_eq_false_iff] at ht; rw[hf t ht.1]
 | cond c a b iha ihb =>
  intro K K' ρ w h hk
  refine boolK_mono h fun t h => ?_
  split at h
  ·rename_i ht; rw[if_pos ht]; exact iha h fun e ρ' w' hf hK => hk _ _ _ (fun t ht => hf t (by simp only[wr,Bool.or_eq_false_iff] at ht; exact ht.1)) hK
  ·rename_i ht; rw[if_neg ht]; exact ihb h fun e ρ' w' hf hK => hk _ _ _ (fun t ht => hf t (by simp only[wr,Bool.or_eq_false_iff] at ht; exact ht.2)) hK
 | block id b ih =>
  intro K K' ρ w h hk
  refine ih h fun e ρ' w' hf h' => ?_
  have hk' : ∀ e, K e ρ' w' → K' e ρ' w' := fun e => hk e ρ' w' hf
  cases e with
  | exit j =>
   by_cases hj : j = id
   ·have e1 : ∀ K : Exit → Env → World → Prop, blkK id K (.exit j) ρ' w' = K .normal ρ' w' := fun K => if_pos hj
    rw[e1] at *; exact hk' _ h'
   ·have e1 : ∀ K : Exit → Env → World → Prop, blkK id K (.exit j) ρ' w' = K (.exit j) ρ' w' := fun K => if_neg hj
    rw[e1] at *; exact hk' _ h'
  | _ => exact hk' _ h'
 | loop b ih =>
  intro K K' ρ w h hk
  obtain ⟨m, h⟩ := h
  refine ⟨m, ?_⟩
  have key : ∀ m ρ1 w1, (∀ t, wr b t = false → ρ1 t = ρ t) → loopN (b.W P) K m ρ1 w1 → loopN (b.W P) K' m ρ1 w1 := by
   intro m
   induction m with
   | zero => intro ρ1 w1 _ h; exact h
   | succ m ihm =>
    intro ρ1 w1 hf1 h
    refine ih h fun e ρ' w' hf h' => seqK_all h' (fun h'' => ihm _ _ (fun t ht => by rw[hf t ht,hf1 t ht]) h'') (fun h'' => hk _ _ _ (fun t ht => by rw[hf t ht,hf1 t ht]) h'')
  exact key m ρ w (fun _ _ => rfl) h
theorem join_cut {P : Program} {a b : S} {K : Exit → Env → World → Prop} {ρ : Env} {w : World} (J : Env → World → Prop)
  (h1 : ∀ N : Env → World → Prop, (∀ ρ' w', J ρ' w' → endK N ρ' w') → a.W P (seqK (endK N) K) ρ w) (h2 : ∀ ρ' w', (∀ t, wr a t = false → ρ' t = ρ t) → J ρ' w' → b.W P K ρ' w') : (S.join a b).W P K ρ w := by
 have := h1 J (fun ρ' w' h => h)
 exact W_frame a this fun e ρ' w' hf h => seqK_all h (fun h => h2 ρ' w' hf h) (fun h => h)
theorem loop_inv {P : Program} {b : S} {K : Exit → Env → World → Prop} {ρ : Env} {w : World} (I : Nat → Env → World → Prop) (m : Nat) (h0 : I m ρ w)
  (hstep : ∀ m ρ' w', (∀ t, wr b t = false → ρ' t = ρ t) → I m ρ' w' → ∀ N : Env → World → Prop, (∀ m' ρ'' w'', m' < m → I m' ρ'' w'' → endK N ρ'' w'') → b.W P (seqK (endK N) K) ρ' w') : loopT P b K ρ w .mk := by
 have key : ∀ n m ρ' w', m < n → (∀ t, wr b t = false → ρ' t = ρ t) → I m ρ' w' → loopN (b.W P) K n ρ' w' := by
  intro n
  induction n with
  | zero => intro m ρ' w' h; omega
  | succ n ih =>
   intro m ρ' w' h hf hI
   have := hstep m ρ' w' hf hI (fun ρ'' w'' => ∃ m', m' < m ∧ I m' ρ'' w'') (fun m' ρ'' w'' hlt hI' => ⟨m', hlt, hI'⟩)
   exact W_frame b this fun e ρ'' w'' hf' h' => seqK_all h' (fun ⟨m', hlt, hI'⟩ => ih m' ρ'' w'' (by omega) (fun t ht => by rw[hf' t ht,hf t ht]) hI') (fun h => h)
 exact ⟨m + 1, key (m + 1) m ρ w (by omega) (fun _ _ => rfl) h0⟩
end Go.Proofs.YtcgplgpdcfocpaaGreatDoor.Eng
end
