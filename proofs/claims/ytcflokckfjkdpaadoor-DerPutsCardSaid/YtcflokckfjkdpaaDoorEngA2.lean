/- A region that draws its order, by a script: what is pure, what only reads, what is forced. -/
import Derived.Test.YtcflokckfjkdpaaDoorEngA
set_option linter.unusedVariables false
namespace Go.Proofs.YtcflokckfjkdpaaDoor.Eng
open Go

section
variable {P : Program} {ops : Array Oper} {md : Region.Mode}

def Near (w : World) : World → Prop := fun w' => ∃ m, w' = w.drewN m

/-- Operation number i, carried out in whatever world near by. -/
def mOp (P : Program) (ops : Array Oper) (i : Nat) (K : Act → World → Prop) (a : Act) (w : World) : Prop :=
  match ops[i]? with
  | none => False
  | some o => if Region.wanted o (yielded ops a.tmps) then
      (match (execOp a.eval o).run P w with
       | .ok (.value v) w' => K (a.put o.dst v) w'
       | .ok .skip w' => K (a.put o.dst undef) w'
       | .ok (.enter f args) w' => Calls P f args w' fun e w'' => ∃ v, e = .returned v ∧ K (a.put o.dst v) w''
       | _ => False)
    else K (a.put o.dst undef) w

theorem mOp_mono {i : Nat} {K K' : Act → World → Prop} {a : Act} {w : World} (h : ∀ a w, K a w → K' a w) (hh : mOp P ops i K a w) : mOp P ops i K' a w := by
  unfold mOp at *
  cases ho : ops[i]? with
  | none => simp only [ho] at hh
  | some o =>
    simp only [ho] at hh ⊢
    split
    · rename_i hw
      rw [if_pos hw] at hh
      generalize (execOp a.eval o).run P w = r at *
      cases r with
      | halt x w' => exact hh
      | ok x w' =>
        cases x <;> first | exact hh | skip
        case value v => exact h _ _ hh
        case skip => exact h _ _ hh
        case enter f args => exact hh.mono fun e w'' ⟨v, he, hv⟩ => ⟨v, he, h _ _ hv⟩
    · rename_i hw
      rw [if_neg hw] at hh
      exact h _ _ hh

theorem wpOp_of_mOp {Q : Exit → Act → World → Prop} {i : Nat} {K K' : Act → World → Prop} {a : Act} {w : World} (h : ∀ a w, K a w → K' a w) (hh : mOp P ops i K a w) : wpOp P ops Q i K' a w := by
  unfold mOp at hh
  unfold wpOp
  cases ho : ops[i]? with
  | none => simp only [ho] at hh
  | some o =>
    simp only [ho] at hh ⊢
    split
    · rename_i hw
      rw [if_pos hw] at hh
      refine .inl ?_
      unfold Oper.wp
      generalize (execOp a.eval o).run P w = r at *
      cases r with
      | halt x w' => exact hh.elim
      | ok x w' =>
        cases x <;> first | exact hh.elim | skip
        case value v => exact h _ _ hh
        case skip => exact h _ _ hh
        case enter f args =>
          rw [Oper.upon_enter]
          exact hh.mono fun e w'' ⟨v, he, hv⟩ => by subst he; exact h _ _ hv
    · rename_i hw
      rw [if_neg hw] at hh
      exact h _ _ hh

/-- In every world the value, and the world as it was. -/
def Pure (P : Program) (ops : Array Oper) (o : Oper) (v : Value) (a : Act) : Prop :=
  (Region.wanted o (yielded ops a.tmps) = true ∧ ∀ w, (execOp a.eval o).run P w = .ok (.value v) w) ∨ (Region.wanted o (yielded ops a.tmps) = false ∧ v = undef)
theorem Pure.of_same {o : Oper} {v : Value} {a a' : Act} (hy : Pure P ops o v a) (he : execOp a'.eval o = execOp a.eval o)
    (hw : Region.wanted o (yielded ops a'.tmps) = Region.wanted o (yielded ops a.tmps)) : Pure P ops o v a' := by
  unfold Pure at *
  rw [he, hw]
  exact hy
theorem Pure.yields {o : Oper} {v : Value} {a : Act} (hy : Pure P ops o v a) (C : World → Prop) : YieldsIn P ops C o v a := by
  rcases hy with ⟨hw, h⟩ | h
  · refine .inl ⟨hw, fun w' _ => ?_⟩
    unfold Oper.quietAt
    rw [h w']
    exact ⟨rfl, rfl⟩
  · exact .inr h

theorem mOp_put {j : Nat} {oi oj : Oper} {v : Value} (hj : ops[j]? = some oj) (hap : oi.apart ops oj = true)
    (hsi : ∀ cs b, oi.op ≠ .select cs b) (hsj : ∀ cs b, oj.op ≠ .select cs b) {K : Act → World → Prop} {a : Act} {w : World}
    (hy : Pure P ops oi v a) (h : mOp P ops j K (a.put oi.dst v) w) :
    mOp P ops j (fun a' w' => Pure P ops oi v a' ∧ K (a'.put oi.dst v) w') a w := by
  obtain ⟨h1, h2, h3⟩ := Oper.apart_spec hap
  have keep : ∀ (a : Act), Pure P ops oi v a → ∀ u, Pure P ops oi v (a.put oj.dst u) := fun a hy u =>
    hy.of_same (execOp_put oi hsi a oj.dst u h3) (wanted_put oi a oj.dst u h3)
  unfold mOp at *
  simp only [hj] at *
  rw [wanted_put oj a oi.dst v h1, execOp_put oj hsj a oi.dst v h1] at h
  split
  · rename_i hw
    rw [if_pos hw] at h
    generalize (execOp a.eval oj).run P w = r at *
    cases r with
    | halt x w' => exact h
    | ok x w' =>
      cases x <;> first | exact h | skip
      case value u => exact ⟨keep a hy u, by rw [← Act.put_comm a v u h2]; exact h⟩
      case skip => exact ⟨keep a hy _, by rw [← Act.put_comm a v undef h2]; exact h⟩
      case enter f args => exact h.mono fun e w'' ⟨u, he, hu⟩ => ⟨u, he, keep a hy u, by rw [← Act.put_comm a v u h2]; exact hu⟩
  · rename_i hw
    rw [if_neg hw] at h
    exact ⟨keep a hy _, by rw [← Act.put_comm a v undef h2]; exact h⟩

theorem qOp_putP {j : Nat} {oi oj : Oper} {v : Value} (hj : ops[j]? = some oj) (hap : oi.apart ops oj = true)
    (hsi : ∀ cs b, oi.op ≠ .select cs b) (hsj : ∀ cs b, oj.op ≠ .select cs b) {C : World → Prop} {K : Act → Prop} {a : Act}
    (hy : Pure P ops oi v a) (h : qOp P ops C j K (a.put oi.dst v)) :
    qOp P ops C j (fun a' => Pure P ops oi v a' ∧ K (a'.put oi.dst v)) a := by
  obtain ⟨h1, h2, h3⟩ := Oper.apart_spec hap
  have keep : ∀ (a : Act), Pure P ops oi v a → ∀ u, Pure P ops oi v (a.put oj.dst u) := fun a hy u =>
    hy.of_same (execOp_put oi hsi a oj.dst u h3) (wanted_put oi a oj.dst u h3)
  unfold qOp at *
  simp only [hj] at *
  rw [wanted_put oj a oi.dst v h1] at h
  split
  · rename_i hw
    simp only [hw, if_true] at h
    obtain ⟨u, hu, hn⟩ := h
    refine ⟨u, fun w hw' => ?_, keep a hy u, by rw [← Act.put_comm a v u h2]; exact hn⟩
    have := hu w hw'
    unfold Oper.quietAt at *
    rwa [execOp_put oj hsj a oi.dst v h1] at this
  · rename_i hw
    simp only [hw] at h
    exact ⟨keep a hy _, by rw [← Act.put_comm a v undef h2]; exact h⟩

/-- Whatever order is picked; the loud operations are those of D. -/
def wpM (P : Program) (md : Region.Mode) (ops : Array Oper) (D : List Nat) (Q : Act → World → Prop) : Nat → Array Bool → Act → World → Prop
  | 0, listed, a, w => Region.ready md ops listed = [] ∧ ∀ w', Near w w' → Q a w'
  | f + 1, listed, a, w =>
    (Region.ready md ops listed = [] → ∀ w', Near w w' → Q a w') ∧
    ∀ i ∈ Region.ready md ops listed, if i ∈ D then ∀ w', Near w w' → mOp P ops i (wpM P md ops D Q f (listed.setIfInBounds i true)) a w'
      else qOp P ops (Near w) i (fun a' => wpM P md ops D Q f (listed.setIfInBounds i true) a' w) a

theorem wpM_any {D : List Nat} {Q : Act → World → Prop} {Q' : Exit → Act → World → Prop} (hQ : ∀ a w, Q a w → Q' .normal a w) : ∀ (f : Nat) (listed : Array Bool) (a : Act) (w : World), wpM P md ops D Q f listed a w → ∀ w', Near w w' → wpAny P md ops Q' f listed a w'
  | 0, _, _, _, h, w', hw => ⟨h.1, hQ _ _ (h.2 w' hw)⟩
  | f + 1, listed, a, w, h, w', hw => by
    refine ⟨fun h0 => hQ _ _ (h.1 h0 w' hw), fun i hi => ?_⟩
    have h2 := h.2 i hi
    by_cases hD : i ∈ D
    · rw [if_pos hD] at h2
      exact wpOp_of_mOp (fun a' w'' h3 => wpM_any hQ f _ a' w'' h3 w'' ⟨0, rfl⟩) (h2 w' hw)
    · rw [if_neg hD] at h2
      refine wpOp_of_qOp hw (fun a' w'' hw'' h3 => wpM_any hQ f _ a' w h3 w'' hw'') h2

def Closed (md : Region.Mode) (ops : Array Oper) (listed : Array Bool) : Prop :=
  ∀ j oj, ops[j]? = some oj → listed.getD j false = true → ∀ e ∈ oj.after, Region.binds md e = true → listed.getD e.on false = true
theorem Closed.start (n : Nat) : Closed md ops (Array.replicate n false) := fun j oj _ hl => by rw [getD_replicate_false] at hl; cases hl
theorem Closed.set {i : Nat} {listed : Array Bool} (hc : Closed md ops listed) (hi : i ∈ Region.ready md ops listed) : Closed md ops (listed.setIfInBounds i true) := by
  obtain ⟨_, oi, hoi, hall⟩ := mem_ready.1 hi
  intro j oj hj hl e he hb
  by_cases hij : i = j
  · subst hij
    have : oj = oi := Option.some.inj (hj.symm.trans hoi)
    subst this
    exact getD_set_true (hall e he hb)
  · rw [getD_set_ne false hij] at hl
    exact getD_set_true (hc j oj hj hl e he hb)

/-- Does d wait for i, on whatever way? -/
def reach (md : Region.Mode) (ops : Array Oper) (i : Nat) : Nat → Nat → Bool
  | 0, _ => false
  | f + 1, d => match ops[d]? with
    | none => false
    | some o => o.after.any fun e => Region.binds md e && (e.on == i || (decide (e.on < d) && reach md ops i f e.on))
theorem reach_listed {i : Nat} {listed : Array Bool} (hc : Closed md ops listed) : ∀ (f d : Nat), reach md ops i f d = true → (∀ o, ops[d]? = some o → ∀ e ∈ o.after, Region.binds md e = true → listed.getD e.on false = true) → listed.getD i false = true
  | 0, _, h, _ => by cases h
  | f + 1, d, h, hd => by
    unfold reach at h
    split at h
    · cases h
    · rename_i o ho
      obtain ⟨e, he, hb⟩ := Array.any_eq_true'.1 h
      simp only [Bool.and_eq_true, Bool.or_eq_true, beq_iff_eq, decide_eq_true_eq] at hb
      have h1 := hd o ho e he hb.1
      rcases hb.2 with h2 | ⟨_, h2⟩
      · rw [← h2]; exact h1
      · exact reach_listed hc f e.on h2 (fun o' ho' e' he' hb' => hc e.on o' ho' h1 e' he' hb')
theorem reach_not_ready {i d f : Nat} {listed : Array Bool} (hc : Closed md ops listed) (hr : reach md ops i f d = true) (hun : listed.getD i true = false) : d ∉ Region.ready md ops listed := by
  intro h
  obtain ⟨_, o, ho, hall⟩ := mem_ready.1 h
  have := reach_listed hc f d hr (fun o' ho' e he hb => by
    have : o' = o := Option.some.inj (ho'.symm.trans ho)
    subst this
    exact hall e he hb)
  rw [getD_both hun] at this
  cases this

/-- An operation that only reads may be taken first, where whatever is loud waits for it. -/
theorem wpM_quiet {D : List Nat} {Q : Act → World → Prop} {i g : Nat} {oi : Oper} {v : Value} {w : World} (hi : ops[i]? = some oi) (hsel : ∀ (j : Nat) (o : Oper) cs b, ops[j]? = some o → o.op ≠ .select cs b) (hiD : i ∉ D) :
    ∀ (f : Nat) (listed : Array Bool) (a : Act), Closed md ops listed → (∀ d ∈ D, listed.getD d true = true ∨ reach md ops i g d = true) →
      (∀ j oj, ops[j]? = some oj → j ≠ i → listed.getD j true = false → (∀ e ∈ oj.after, Region.binds md e = true → e.on ≠ i) → oi.apart ops oj = true) →
      i ∈ Region.ready md ops listed → YieldsIn P ops (Near w) oi v a →
      wpM P md ops D Q f (listed.setIfInBounds i true) (a.put oi.dst v) w → wpM P md ops D Q (f + 1) listed a w := by
  intro f
  induction f with
  | zero =>
    intro listed a hc hD hfree hr hy H
    refine ⟨fun h => (by rw [h] at hr; cases hr), fun j hj => ?_⟩
    by_cases hji : j = i
    · subst hji; rw [if_neg hiD]; exact hy.qOp hi H
    · have := ready_mono hj hji
      rw [H.1] at this
      cases this
  | succ f ih =>
    intro listed a hc hD hfree hr hy H
    have hun := (mem_ready.1 hr).1
    refine ⟨fun h => (by rw [h] at hr; cases hr), fun j hj => ?_⟩
    have hjD : j ∉ D := fun hjD => by
      rcases hD j hjD with h | h
      · rw [(mem_ready.1 hj).1] at h; cases h
      · exact reach_not_ready hc h hun hj
    rw [if_neg hjD]
    by_cases hji : j = i
    · subst hji; exact hy.qOp hi H
    · have h1 := H.2 j (ready_mono hj hji)
      rw [if_neg hjD] at h1
      obtain ⟨hjun, oj, hoj, hall⟩ := mem_ready.1 hj
      have hnot : ∀ e ∈ oj.after, Region.binds md e = true → e.on ≠ i := fun e he hb heq => by
        have h1 := hall e he hb
        rw [heq, getD_both hun] at h1
        cases h1
      have h2 := qOp_put hoj (hfree j oj hoj hji hjun hnot) (fun cs b => hsel i oi cs b hi) (fun cs b => hsel j oj cs b hoj) hy h1
      have hfree' : ∀ k ok, ops[k]? = some ok → k ≠ i → (listed.setIfInBounds j true).getD k true = false →
          (∀ e ∈ ok.after, Region.binds md e = true → e.on ≠ i) → oi.apart ops ok = true := fun k ok hk hki hun hno => by
        refine hfree k ok hk hki ?_ hno
        by_cases hjk : j = k
        · subst hjk; exact hjun
        · rw [getD_set_ne true hjk] at hun; exact hun
      refine qOp_mono (fun a' h3 => ih (listed.setIfInBounds j true) a' (hc.set hj) (fun d hd => ?_) hfree' (ready_mono hr (Ne.symm hji)) h3.1 ?_) h2
      · rcases hD d hd with h | h
        · refine .inl ?_
          have hjd : j ≠ d := fun e => hjD (e ▸ hd)
          rw [getD_set_ne true hjd]; exact h
        · exact .inr h
      · rw [Array.setIfInBounds_comm _ _ hji]
        exact h3.2

/-- A pure operation may be taken first at any time. -/
theorem wpM_pure {D : List Nat} {Q : Act → World → Prop} {i : Nat} {oi : Oper} {v : Value} (hi : ops[i]? = some oi) (hsel : ∀ (j : Nat) (o : Oper) cs b, ops[j]? = some o → o.op ≠ .select cs b) (hiD : i ∉ D) :
    ∀ (f : Nat) (listed : Array Bool) (a : Act) (w : World),
      (∀ j oj, ops[j]? = some oj → j ≠ i → listed.getD j true = false → (∀ e ∈ oj.after, Region.binds md e = true → e.on ≠ i) → oi.apart ops oj = true) →
      i ∈ Region.ready md ops listed → Pure P ops oi v a →
      wpM P md ops D Q f (listed.setIfInBounds i true) (a.put oi.dst v) w → wpM P md ops D Q (f + 1) listed a w := by
  intro f
  induction f with
  | zero =>
    intro listed a w hfree hr hy H
    refine ⟨fun h => (by rw [h] at hr; cases hr), fun j hj => ?_⟩
    by_cases hji : j = i
    · subst hji; rw [if_neg hiD]; exact (hy.yields _).qOp hi H
    · have := ready_mono hj hji
      rw [H.1] at this
      cases this
  | succ f ih =>
    intro listed a w hfree hr hy H
    have hun := (mem_ready.1 hr).1
    refine ⟨fun h => (by rw [h] at hr; cases hr), fun j hj => ?_⟩
    by_cases hji : j = i
    · subst hji; rw [if_neg hiD]; exact (hy.yields _).qOp hi H
    · have h1 := H.2 j (ready_mono hj hji)
      obtain ⟨hjun, oj, hoj, hall⟩ := mem_ready.1 hj
      have hnot : ∀ e ∈ oj.after, Region.binds md e = true → e.on ≠ i := fun e he hb heq => by
        have h1 := hall e he hb
        rw [heq, getD_both hun] at h1
        cases h1
      have hap := hfree j oj hoj hji hjun hnot
      have hfree' : ∀ k ok, ops[k]? = some ok → k ≠ i → (listed.setIfInBounds j true).getD k true = false →
          (∀ e ∈ ok.after, Region.binds md e = true → e.on ≠ i) → oi.apart ops ok = true := fun k ok hk hki hun hno => by
        refine hfree k ok hk hki ?_ hno
        by_cases hjk : j = k
        · subst hjk; exact hjun
        · rw [getD_set_ne true hjk] at hun; exact hun
      have step : ∀ (a' : Act) (w' : World), Pure P ops oi v a' → wpM P md ops D Q f ((listed.setIfInBounds i true).setIfInBounds j true) (a'.put oi.dst v) w' → wpM P md ops D Q (f + 1) (listed.setIfInBounds j true) a' w' := fun a' w' hp h3 =>
        ih (listed.setIfInBounds j true) a' w' hfree' (ready_mono hr (Ne.symm hji)) hp (by rw [Array.setIfInBounds_comm _ _ hji]; exact h3)
      by_cases hjD : j ∈ D
      · rw [if_pos hjD] at h1 ⊢
        intro w' hw'
        exact mOp_mono (fun a' w'' h3 => step a' w'' h3.1 h3.2) (mOp_put hoj hap (fun cs b => hsel i oi cs b hi) (fun cs b => hsel j oj cs b hoj) hy (h1 w' hw'))
      · rw [if_neg hjD] at h1 ⊢
        exact qOp_mono (fun a' h3 => step a' w h3.1 h3.2) (qOp_putP hoj hap (fun cs b => hsel i oi cs b hi) (fun cs b => hsel j oj cs b hoj) hy h1)
end
end Go.Proofs.YtcflokckfjkdpaaDoor.Eng
