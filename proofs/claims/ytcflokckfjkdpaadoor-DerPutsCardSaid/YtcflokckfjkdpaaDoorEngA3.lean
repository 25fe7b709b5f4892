/- A region that draws its order, by a tree: what is pure, what only reads, what reads cells that stay, and what is loud, in whatever order. -/
import Derived.Test.YtcflokckfjkdpaaDoorEngA2
set_option linter.unusedVariables false
namespace Go.Proofs.YtcflokckfjkdpaaDoor.Eng
open Go

section
variable {P : Program} {ops : Array Oper} {md : Region.Mode}

theorem mOp_putZ {j : Nat} {oi oj : Oper} {v : Value} {Z : Act → Prop} (hj : ops[j]? = some oj) (hap : oi.apart ops oj = true)
    (hsj : ∀ cs b, oj.op ≠ .select cs b) (keep : ∀ a, Z a → ∀ u, Z (a.put oj.dst u)) {K : Act → World → Prop} {a : Act} {w : World}
    (hy : Z a) (h : mOp P ops j K (a.put oi.dst v) w) : mOp P ops j (fun a' w' => Z a' ∧ K (a'.put oi.dst v) w') a w := by
  obtain ⟨h1, h2, h3⟩ := Oper.apart_spec hap
  unfold mOp at *
  simp only [hj] at *
  rw [wanted_put oj a oi.dst v h1, execOp_put oj hsj a oi.dst v h1] at h
  split
  · rename_i hw
    rw [if_pos hw] at h
    generalize (execOp a.eval oj).run P w = r at *
    cases r with
    | halt x w' => exact h
    | ok x w' =>
      cases x <;> first | exact h | skip
      case value u => exact ⟨keep a hy u, by rw [← Act.put_comm a v u h2]; exact h⟩
      case skip => exact ⟨keep a hy _, by rw [← Act.put_comm a v undef h2]; exact h⟩
      case enter f args => exact h.mono fun e w'' ⟨u, he, hu⟩ => ⟨u, he, keep a hy u, by rw [← Act.put_comm a v u h2]; exact hu⟩
  · rename_i hw
    rw [if_neg hw] at h
    exact ⟨keep a hy _, by rw [← Act.put_comm a v undef h2]; exact h⟩
theorem qOp_putZ {j : Nat} {oi oj : Oper} {v : Value} {Z : Act → Prop} (hj : ops[j]? = some oj) (hap : oi.apart ops oj = true)
    (hsj : ∀ cs b, oj.op ≠ .select cs b) (keep : ∀ a, Z a → ∀ u, Z (a.put oj.dst u)) {C : World → Prop} {K : Act → Prop} {a : Act}
    (hy : Z a) (h : qOp P ops C j K (a.put oi.dst v)) : qOp P ops C j (fun a' => Z a' ∧ K (a'.put oi.dst v)) a := by
  obtain ⟨h1, h2, h3⟩ := Oper.apart_spec hap
  unfold qOp at *
  simp only [hj] at *
  rw [wanted_put oj a oi.dst v h1] at h
  split
  · rename_i hw
    simp only [hw, if_true] at h
    obtain ⟨u, hu, hn⟩ := h
    refine ⟨u, fun w hw' => ?_, keep a hy u, by rw [← Act.put_comm a v u h2]; exact hn⟩
    have := hu w hw'
    unfold Oper.quietAt at *
    rwa [execOp_put oj hsj a oi.dst v h1] at this
  · rename_i hw
    simp only [hw] at h
    exact ⟨keep a hy _, by rw [← Act.put_comm a v undef h2]; exact h⟩

/-- Whatever order is picked; the loud operations are those of D, and each keeps C. -/
def wpC (P : Program) (md : Region.Mode) (ops : Array Oper) (D : List Nat) (C : World → Prop) (Q : Act → World → Prop) : Nat → Array Bool → Act → World → Prop
  | 0, listed, a, w => Region.ready md ops listed = [] ∧ ∀ w', Near w w' → Q a w'
  | f + 1, listed, a, w =>
    (Region.ready md ops listed = [] → ∀ w', Near w w' → Q a w') ∧
    ∀ i ∈ Region.ready md ops listed, if i ∈ D then ∀ w', Near w w' → mOp P ops i (fun a' w'' => C w'' ∧ wpC P md ops D C Q f (listed.setIfInBounds i true) a' w'') a w'
      else qOp P ops (Near w) i (fun a' => wpC P md ops D C Q f (listed.setIfInBounds i true) a' w) a

theorem wpC_any {D : List Nat} {C : World → Prop} {Q : Act → World → Prop} {Q' : Exit → Act → World → Prop} (hQ : ∀ a w, Q a w → Q' .normal a w) : ∀ (f : Nat) (listed : Array Bool) (a : Act) (w : World), wpC P md ops D C Q f listed a w → ∀ w', Near w w' → wpAny P md ops Q' f listed a w'
  | 0, _, _, _, h, w', hw => ⟨h.1, hQ _ _ (h.2 w' hw)⟩
  | f + 1, listed, a, w, h, w', hw => by
    refine ⟨fun h0 => hQ _ _ (h.1 h0 w' hw), fun i hi => ?_⟩
    have h2 := h.2 i hi
    by_cases hD : i ∈ D
    · rw [if_pos hD] at h2
      exact wpOp_of_mOp (fun a' w'' h3 => wpC_any hQ f _ a' w'' h3.2 w'' ⟨0, rfl⟩) (h2 w' hw)
    · rw [if_neg hD] at h2
      refine wpOp_of_qOp hw (fun a' w'' hw'' h3 => wpC_any hQ f _ a' w h3 w'' hw'') h2

/-- An operation that only reads may be taken first, where whatever is loud waits for it. -/
theorem wpC_quiet {D : List Nat} {C : World → Prop} {Q : Act → World → Prop} {i g : Nat} {oi : Oper} {v : Value} {w : World} (hi : ops[i]? = some oi) (hsel : ∀ (j : Nat) (o : Oper) cs b, ops[j]? = some o → o.op ≠ .select cs b) (hiD : i ∉ D) :
    ∀ (f : Nat) (listed : Array Bool) (a : Act), Closed md ops listed → (∀ d ∈ D, listed.getD d true = true ∨ reach md ops i g d = true) →
      (∀ j oj, ops[j]? = some oj → j ≠ i → listed.getD j true = false → (∀ e ∈ oj.after, Region.binds md e = true → e.on ≠ i) → oi.apart ops oj = true) →
      i ∈ Region.ready md ops listed → YieldsIn P ops (Near w) oi v a →
      wpC P md ops D C Q f (listed.setIfInBounds i true) (a.put oi.dst v) w → wpC P md ops D C Q (f + 1) listed a w := by
  intro f
  induction f with
  | zero =>
    intro listed a hc hD hfree hr hy H
    refine ⟨fun h => (by rw [h] at hr; cases hr), fun j hj => ?_⟩
    by_cases hji : j = i
    · subst hji; rw [if_neg hiD]; exact hy.qOp hi H
    · have := ready_mono hj hji
      rw [H.1] at this
      cases this
  | succ f ih =>
    intro listed a hc hD hfree hr hy H
    have hun := (mem_ready.1 hr).1
    refine ⟨fun h => (by rw [h] at hr; cases hr), fun j hj => ?_⟩
    have hjD : j ∉ D := fun hjD => by
      rcases hD j hjD with h | h
      · rw [(mem_ready.1 hj).1] at h; cases h
      · exact reach_not_ready hc h hun hj
    rw [if_neg hjD]
    by_cases hji : j = i
    · subst hji; exact hy.qOp hi H
    · have h1 := H.2 j (ready_mono hj hji)
      rw [if_neg hjD] at h1
      obtain ⟨hjun, oj, hoj, hall⟩ := mem_ready.1 hj
      have hnot : ∀ e ∈ oj.after, Region.binds md e = true → e.on ≠ i := fun e he hb heq => by
        have h1 := hall e he hb
        rw [heq, getD_both hun] at h1
        cases h1
      have h2 := qOp_put hoj (hfree j oj hoj hji hjun hnot) (fun cs b => hsel i oi cs b hi) (fun cs b => hsel j oj cs b hoj) hy h1
      have hfree' : ∀ k ok, ops[k]? = some ok → k ≠ i → (listed.setIfInBounds j true).getD k true = false →
          (∀ e ∈ ok.after, Region.binds md e = true → e.on ≠ i) → oi.apart ops ok = true := fun k ok hk hki hun hno => by
        refine hfree k ok hk hki ?_ hno
        by_cases hjk : j = k
        · subst hjk; exact hjun
        · rw [getD_set_ne true hjk] at hun; exact hun
      refine qOp_mono (fun a' h3 => ih (listed.setIfInBounds j true) a' (hc.set hj) (fun d hd => ?_) hfree' (ready_mono hr (Ne.symm hji)) h3.1 ?_) h2
      · rcases hD d hd with h | h
        · refine .inl ?_
          have hjd : j ≠ d := fun e => hjD (e ▸ hd)
          rw [getD_set_ne true hjd]; exact h
        · exact .inr h
      · rw [Array.setIfInBounds_comm _ _ hji]
        exact h3.2

/-- An operation may be taken first that yields one value in every world that meets Cf, where each loud operation keeps Cf. -/
theorem wpC_float {D : List Nat} {C Cf : World → Prop} {Q : Act → World → Prop} {i : Nat} {oi : Oper} {v : Value} (hi : ops[i]? = some oi) (hsel : ∀ (j : Nat) (o : Oper) cs b, ops[j]? = some o → o.op ≠ .select cs b) (hiD : i ∉ D) :
    ∀ (f : Nat) (listed : Array Bool) (a : Act) (w : World),
      (∀ j oj, ops[j]? = some oj → j ≠ i → listed.getD j true = false → (∀ e ∈ oj.after, Region.binds md e = true → e.on ≠ i) → oi.apart ops oj = true) →
      i ∈ Region.ready md ops listed → (∀ w', Cf w' → YieldsIn P ops (Near w') oi v a) → Cf w →
      wpC P md ops D (fun w' => Cf w' ∧ C w') Q f (listed.setIfInBounds i true) (a.put oi.dst v) w → wpC P md ops D C Q (f + 1) listed a w := by
  intro f
  induction f with
  | zero =>
    intro listed a w hfree hr hy hC H
    refine ⟨fun h => (by rw [h] at hr; cases hr), fun j hj => ?_⟩
    by_cases hji : j = i
    · subst hji; rw [if_neg hiD]; exact (hy w hC).qOp hi ⟨H.1, H.2⟩
    · have := ready_mono hj hji
      rw [H.1] at this
      cases this
  | succ f ih =>
    intro listed a w hfree hr hy hC H
    have hun := (mem_ready.1 hr).1
    refine ⟨fun h => (by rw [h] at hr; cases hr), fun j hj => ?_⟩
    have weak : ∀ (f : Nat) (listed : Array Bool) (a : Act) (w : World), wpC P md ops D (fun w' => Cf w' ∧ C w') Q f listed a w → wpC P md ops D C Q f listed a w := by
      intro f
      induction f with
      | zero => intro listed a w h; exact h
      | succ f ih =>
        intro listed a w h
        refine ⟨h.1, fun k hk => ?_⟩
        have h2 := h.2 k hk
        by_cases hD : k ∈ D
        · rw [if_pos hD] at h2 ⊢
          exact fun w' hw' => mOp_mono (fun a' w'' h3 => ⟨h3.1.2, ih _ _ _ h3.2⟩) (h2 w' hw')
        · rw [if_neg hD] at h2 ⊢
          exact qOp_mono (fun a' h3 => ih _ _ _ h3) h2
    by_cases hji : j = i
    · subst hji; rw [if_neg hiD]; exact (hy w hC).qOp hi (weak _ _ _ _ H)
    · have h1 := H.2 j (ready_mono hj hji)
      obtain ⟨hjun, oj, hoj, hall⟩ := mem_ready.1 hj
      have hnot : ∀ e ∈ oj.after, Region.binds md e = true → e.on ≠ i := fun e he hb heq => by
        have h1 := hall e he hb
        rw [heq, getD_both hun] at h1
        cases h1
      have hap := hfree j oj hoj hji hjun hnot
      obtain ⟨p1, p2, p3⟩ := Oper.apart_spec hap
      have keep : ∀ (a : Act), (∀ w', Cf w' → YieldsIn P ops (Near w') oi v a) → ∀ u, ∀ w', Cf w' → YieldsIn P ops (Near w') oi v (a.put oj.dst u) := fun a hy u w' hw' =>
        (hy w' hw').of_same (execOp_put oi (fun cs b => hsel i oi cs b hi) a oj.dst u p3) (wanted_put oi a oj.dst u p3)
      have hfree' : ∀ k ok, ops[k]? = some ok → k ≠ i → (listed.setIfInBounds j true).getD k true = false →
          (∀ e ∈ ok.after, Region.binds md e = true → e.on ≠ i) → oi.apart ops ok = true := fun k ok hk hki hun hno => by
        refine hfree k ok hk hki ?_ hno
        by_cases hjk : j = k
        · subst hjk; exact hjun
        · rw [getD_set_ne true hjk] at hun; exact hun
      have step : ∀ (a' : Act) (w' : World), (∀ w', Cf w' → YieldsIn P ops (Near w') oi v a') → Cf w' → wpC P md ops D (fun w' => Cf w' ∧ C w') Q f ((listed.setIfInBounds i true).setIfInBounds j true) (a'.put oi.dst v) w' → wpC P md ops D C Q (f + 1) (listed.setIfInBounds j true) a' w' := fun a' w' hp hw' h3 =>
        ih (listed.setIfInBounds j true) a' w' hfree' (ready_mono hr (Ne.symm hji)) hp hw' (by rw [Array.setIfInBounds_comm _ _ hji]; exact h3)
      by_cases hjD : j ∈ D
      · rw [if_pos hjD] at h1 ⊢
        intro w' hw'
        exact mOp_mono (fun a' w'' h3 => ⟨h3.2.1.2, step a' w'' h3.1 h3.2.1.1 h3.2.2⟩) (mOp_putZ hoj hap (fun cs b => hsel j oj cs b hoj) keep hy (h1 w' hw'))
      · rw [if_neg hjD] at h1 ⊢
        exact qOp_mono (fun a' h3 => step a' w h3.1 hC h3.2) (qOp_putZ hoj hap (fun cs b => hsel j oj cs b hoj) keep hy h1)
theorem wpC_weak {D : List Nat} {C C' : World → Prop} {Q : Act → World → Prop} (hC : ∀ w, C w → C' w) : ∀ (f : Nat) (listed : Array Bool) (a : Act) (w : World), wpC P md ops D C Q f listed a w → wpC P md ops D C' Q f listed a w
  | 0, listed, a, w, h => h
  | f + 1, listed, a, w, h => by
    refine ⟨h.1, fun k hk => ?_⟩
    have h2 := h.2 k hk
    by_cases hD : k ∈ D
    · rw [if_pos hD] at h2 ⊢
      exact fun w' hw' => mOp_mono (fun a' w'' h3 => ⟨hC _ h3.1, wpC_weak hC f _ _ _ h3.2⟩) (h2 w' hw')
    · rw [if_neg hD] at h2 ⊢
      exact qOp_mono (fun a' h3 => wpC_weak hC f _ _ _ h3) h2
/-- A pure operation may be taken first at any time. -/
theorem wpC_pure {D : List Nat} {C : World → Prop} {Q : Act → World → Prop} {i : Nat} {oi : Oper} {v : Value} (hi : ops[i]? = some oi) (hsel : ∀ (j : Nat) (o : Oper) cs b, ops[j]? = some o → o.op ≠ .select cs b) (hiD : i ∉ D)
    (f : Nat) (listed : Array Bool) (a : Act) (w : World)
    (hfree : ∀ j oj, ops[j]? = some oj → j ≠ i → listed.getD j true = false → (∀ e ∈ oj.after, Region.binds md e = true → e.on ≠ i) → oi.apart ops oj = true)
    (hr : i ∈ Region.ready md ops listed) (hy : Pure P ops oi v a)
    (H : wpC P md ops D C Q f (listed.setIfInBounds i true) (a.put oi.dst v) w) : wpC P md ops D C Q (f + 1) listed a w :=
  wpC_float (Cf := fun _ => True) hi hsel hiD f listed a w hfree hr (fun w' _ => hy.yields _) trivial (wpC_weak (fun w h => ⟨trivial, h⟩) f _ _ _ H)
end
end Go.Proofs.YtcflokckfjkdpaaDoor.Eng
