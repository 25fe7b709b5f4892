/- The engine: code, what it asks, and that the model's code meets it. -/
import Derived.Test.YtcflokckfjkdpaaDoorEngD
set_option linter.unusedVariables false
set_option linter.unusedSimpArgs false
namespace Go.Proofs.YtcflokckfjkdpaaDoor.Eng
open Go Go.RowKit

structure O where
  dst : Option Nat
  g : Option (Nat × Bool)
  i : I

/-- In what order a region is carried out: 0 a pure operation, 1 one that reads, 3 one that reads cells that stay; loud operations, in whatever order. -/
inductive Scr where
  | nil
  | st (k i : Nat) (r : Scr)
  | one (i : Nat) (r : Scr)
  | more (i : Nat) (r c : Scr)
  | cov (c : Scr)

inductive S where
  | ops (l : List O)
  | draw (n : Nat) (l : List O)
  | drawS (s : List (Nat × Nat)) (l : List O)
  | drawT (t : Scr) (l : List O)
  | skip
  | ret
  | exit (id : Nat)
  | seq (a b : S)
  | join (a b : S)
  | cond (c : Operand) (a b : S)
  | block (id : Nat) (b : S)
  | loop (b : S)

def Scr.depth : Scr → Nat
  | .nil => 0
  | .st _ _ r => r.depth + 1
  | .one _ r => r.depth + 1
  | .more _ r _ => r.depth + 1
  | .cov c => c.depth
def Scr.heads : Scr → List Nat
  | .one i _ => [i]
  | .more i _ c => i :: c.heads
  | _ => []
def Scr.proper : Scr → Bool
  | .one .. => false
  | .more .. => false
  | _ => true
def Scr.louds : Scr → List Nat
  | .nil => []
  | .st _ _ r => r.louds
  | .one i r => i :: r.louds
  | .more i r c => i :: (r.louds ++ c.louds)
  | .cov c => c.louds
/-- How many ends it has. -/
def Scr.ends : Scr → Nat
  | .nil => 1
  | .st _ _ r => r.ends
  | .one _ r => r.ends
  | .more _ r c => r.ends + c.ends
  | .cov c => c.ends
def gv (ρ : Env) (g : Option (Nat × Bool)) : Bool :=
  match g with
  | none => true
  | some (d, b) => (match ρ d with
    | .bool c => c == b
    | _ => false)
def gK (b : Bool) (A B : Prop) : Prop := if b = true then A else B

def opsW (P : Program) : List O → (Env → World → Prop) → Env → World → Prop
  | [], K, ρ, w => K ρ w
  | o :: r, K, ρ, w => gK (gv ρ o.g) (iW P o.i ρ w fun v w' => opsW P r K (updO ρ o.dst v) w') (opsW P r K (updO ρ o.dst undef) w)
def qopsW (P : Program) (w : World) : List O → (Env → Prop) → Env → Prop
  | [], K, ρ => K ρ
  | o :: r, K, ρ => gK (gv ρ o.g) (qW P o.i ρ w fun v => qopsW P w r K (updO ρ o.dst v)) (qopsW P w r K (updO ρ o.dst undef))

/-- A region that draws, by a script: 0 a pure operation, 1 one that reads, 2 a forced one. -/
def scrW (P : Program) (l : List O) : List (Nat × Nat) → (Env → World → Prop) → Env → World → Prop
  | [], K, ρ, w => ∀ m, K ρ (w.drewN m)
  | (k, i) :: r, K, ρ, w => match l[i]? with
    | none => False
    | some o => match k with
      | 0 => gK (gv ρ o.g) (rW o.i ρ w fun v => scrW P l r K (updO ρ o.dst v) w) (scrW P l r K (updO ρ o.dst undef) w)
      | 1 => gK (gv ρ o.g) (qW P o.i ρ w fun v => scrW P l r K (updO ρ o.dst v) w) (scrW P l r K (updO ρ o.dst undef) w)
      | _ => ∀ m, gK (gv ρ o.g) (iW P o.i ρ (w.drewN m) fun v w' => scrW P l r K (updO ρ o.dst v) w') (scrW P l r K (updO ρ o.dst undef) (w.drewN m))

/-- Cells that are read, and stay. -/
def allC : List (TyK × Addr × Value) → World → Prop
  | [], _ => True
  | (k, p, v) :: r, w => ldK w k p (fun v' => v' = v) ∧ allC r w
def fltK (i : I) (ρ : Env) (w : World) (K : TyK → Addr → Value → Prop) : Prop :=
  match i with
  | .ld k a => ptrK (ev ρ a) fun p => ldK w k p fun v => K k p v
  | _ => False
def scrT (P : Program) (l : List O) : Scr → List (TyK × Addr × Value) → (Env → World → Prop) → Env → World → Prop
  | .nil, cs, K, ρ, w => ∀ m, K ρ (w.drewN m)
  | .st k i r, cs, K, ρ, w => (match l[i]? with
    | none => False
    | some o => (match k with
      | 0 => gK (gv ρ o.g) (rW o.i ρ w fun v => scrT P l r cs K (updO ρ o.dst v) w) (scrT P l r cs K (updO ρ o.dst undef) w)
      | 1 => gK (gv ρ o.g) (qW P o.i ρ w fun v => scrT P l r cs K (updO ρ o.dst v) w) (scrT P l r cs K (updO ρ o.dst undef) w)
      | _ => gK (gv ρ o.g) (fltK o.i ρ w fun k p v => scrT P l r ((k, p, v) :: cs) K (updO ρ o.dst v) w) (scrT P l r cs K (updO ρ o.dst undef) w)))
  | .one i r, cs, K, ρ, w => (match l[i]? with
    | none => False
    | some o => ∀ m, gK (gv ρ o.g) (iW P o.i ρ (w.drewN m) fun v w' => allC cs w' ∧ scrT P l r cs K (updO ρ o.dst v) w') (allC cs (w.drewN m) ∧ scrT P l r cs K (updO ρ o.dst undef) (w.drewN m)))
  | .more i r c, cs, K, ρ, w => (match l[i]? with
    | none => False
    | some o => ∀ m, gK (gv ρ o.g) (iW P o.i ρ (w.drewN m) fun v w' => allC cs w' ∧ scrT P l r cs K (updO ρ o.dst v) w') (allC cs (w.drewN m) ∧ scrT P l r cs K (updO ρ o.dst undef) (w.drewN m))) ∧ scrT P l c cs K ρ w
  | .cov c, cs, K, ρ, w => scrT P l c cs K ρ w

def seqK (N : Env → World → Prop) (K : Exit → Env → World → Prop) : Exit → Env → World → Prop
  | .normal, ρ, w => N ρ w
  | e, ρ, w => K e ρ w
def blkK (id : Nat) (K : Exit → Env → World → Prop) : Exit → Env → World → Prop
  | .exit j, ρ, w => if j = id then K .normal ρ w else K (.exit j) ρ w
  | e, ρ, w => K e ρ w
def loopN (B : (Exit → Env → World → Prop) → Env → World → Prop) (K : Exit → Env → World → Prop) : Nat → Env → World → Prop
  | 0, _, _ => False
  | m + 1, ρ, w => B (seqK (loopN B K m) K) ρ w
def S.W (P : Program) : S → (Exit → Env → World → Prop) → Env → World → Prop
  | .ops l, K, ρ, w => opsW P l (K .normal) ρ w
  | .draw n l, K, ρ, w => qopsW P w (l.take n) (fun ρ' => ∀ m, opsW P (l.drop n) (K .normal) ρ' (w.drewN m)) ρ
  | .drawS s l, K, ρ, w => scrW P l s (K .normal) ρ w.drew
  | .drawT t l, K, ρ, w => scrT P l t [] (K .normal) ρ w.drew
  | .skip, K, ρ, w => K .normal ρ w
  | .ret, K, ρ, w => K .ret ρ w
  | .exit id, K, ρ, w => K (.exit id) ρ w
  | .seq a b, K, ρ, w => a.W P (seqK (b.W P K) K) ρ w
  | .join a b, K, ρ, w => a.W P (seqK (b.W P K) K) ρ w
  | .cond c a b, K, ρ, w => boolK (ev ρ c) fun t => if t = true then a.W P K ρ w else b.W P K ρ w
  | .block id b, K, ρ, w => b.W P (blkK id K) ρ w
  | .loop b, K, ρ, w => ∃ m, loopN (b.W P) K m ρ w

/-! ### The translation -/
/-- How often a piece falls through; how often it leaves to a block. -/
def outs : S → Nat → Nat
  | .exit j, id => if j = id then 1 else 0
  | .seq a b, id => outs a id + outs b id
  | .join a b, id => outs a id + outs b id
  | .cond _ a b, id => outs a id + outs b id
  | .block _ b, id => outs b id
  | .loop b, id => outs b id
  | _, _ => 0
def falls : S → Nat
  | .ret => 0
  | .exit _ => 0
  | .seq a b => if falls a = 0 then 0 else falls b
  | .join a b => if falls a = 0 then 0 else falls b
  | .cond _ a b => falls a + falls b
  | .block id b => falls b + outs b id
  | .loop _ => 0
  | .drawT t _ => t.ends
  | _ => 1
def dstOk (n : Nat) : Option Nat → Bool
  | some d => decide (d < n)
  | none => true
def strO (P : Program) (ops : Array Oper) (n : Nat) (o : Oper) : Option O :=
  let i := (strOp P o.op).getD .no
  if dstOk n o.dst = true then
    match o.guard with
    | none => some ⟨o.dst, none, i⟩
    | some (j, b) => (match (ops[j]?).bind (·.dst) with
      | some d => some ⟨o.dst, some (d, b), i⟩
      | none => none)
  else none
def strL (P : Program) (ops : Array Oper) (n : Nat) : List Oper → Option (List O)
  | [] => some []
  | o :: r => (match strO P ops n o, strL P ops n r with
    | some x, some l => some (x :: l)
    | _, _ => none)
def loud : I → Bool
  | .st .. | .alloc .. | .box .. | .bsl .. | .mks .. | .app .. | .apps .. | .appz .. | .bsl0 .. | .cvid .. | .cpy .. | .rgs .. | .nxs .. => true
  | _ => false
def headOf (_id : Nat) (l : List O) : Nat := l.findIdx (fun o => loud o.i)
def drawOk (P : Program) (ops : Array Oper) (k m : Nat) : Bool :=
  P.follows .mixedOrders && (if k < m then Region.lexTailB .any ops k else Region.lexB .any ops)
/-- Is the script one that the edges allow? -/
def scrOk (ops : Array Oper) (D : List Nat) (ls : List O) : List (Nat × Nat) → Array Bool → Bool
  | [], listed => (Region.ready .any ops listed).isEmpty
  | (k, i) :: r, listed => (Region.ready .any ops listed).contains i && scrOk ops D ls r (listed.setIfInBounds i true) &&
    (match k with
     | 0 => !D.contains i && Region.free .any ops listed i && (match ls[i]? with | some o => !ldB o.i | none => false)
     | 1 => !D.contains i && Region.free .any ops listed i && D.all (fun d => listed.getD d true || reach .any ops i ops.size d)
     | _ => D.contains i && decide (Region.ready .any ops listed = [i]))
def loudOf (s : List (Nat × Nat)) : List Nat := (s.filter (fun p => decide (2 ≤ p.1))).map (·.2)
def scriptOk (P : Program) (ops : Array Oper) (ls : List O) (s : List (Nat × Nat)) : Bool :=
  P.follows .mixedOrders && Region.noSelect ops && decide (s.length = ops.size) && scrOk ops (loudOf s) ls s (Array.replicate ops.size false)
def scrOkT (ops : Array Oper) (D : List Nat) (ls : List O) : Scr → Array Bool → Bool
  | .nil, listed => (Region.ready .any ops listed).isEmpty
  | .st k i r, listed => (Region.ready .any ops listed).contains i && r.proper && scrOkT ops D ls r (listed.setIfInBounds i true) &&
    (match k with
     | 0 => !D.contains i && Region.free .any ops listed i && (match ls[i]? with | some o => !ldB o.i | none => false)
     | 1 => !D.contains i && Region.free .any ops listed i && D.all (fun d => listed.getD d true || reach .any ops i ops.size d)
     | _ => !D.contains i && Region.free .any ops listed i)
  | .one i r, listed => D.contains i && (Region.ready .any ops listed).contains i && r.proper && scrOkT ops D ls r (listed.setIfInBounds i true)
  | .more i r c, listed => D.contains i && (Region.ready .any ops listed).contains i && r.proper && scrOkT ops D ls r (listed.setIfInBounds i true) && !c.proper && decide (c.depth = r.depth + 1) && scrOkT ops D ls c listed
  | .cov c, listed => !c.proper && !(Region.ready .any ops listed).isEmpty && (Region.ready .any ops listed).all (fun i => c.heads.contains i) && scrOkT ops D ls c listed
def scriptOkT (P : Program) (ops : Array Oper) (ls : List O) (t : Scr) : Bool :=
  P.follows .mixedOrders && Region.noSelect ops && decide (t.depth = ops.size) && t.proper && scrOkT ops t.louds ls t (Array.replicate ops.size false)
abbrev Sc := List (Nat × Nat) ⊕ Scr
def strS (P : Program) (n : Nat) (dn : List (Nat × Sc)) : Code → Option S
  | .skip => some .skip
  | .ret => some .ret
  | .exit id => some (.exit id)
  | .seq a b => (match strS P n dn a, strS P n dn b with
    | some x, some y => if 2 ≤ falls x then some (.join x y) else some (.seq x y)
    | _, _ => none)
  | .cond c a b => (match strS P n dn a, strS P n dn b with
    | some x, some y => some (.cond c x y)
    | _, _ => none)
  | .block id b => (strS P n dn b).map (.block id)
  | .loop b => (strS P n dn b).map .loop
  | .region id ops draw => (match strL P ops n ops.toList with
    | none => none
    | some l =>
      if draw then
        match dn.find? (fun p => p.1 == id) with
        | some (_, .inl s) => if scriptOk P ops l s = true then some (.drawS s l) else none
        | some (_, .inr t) => if scriptOkT P ops l t = true then some (.drawT t l) else none
        | none => if drawOk P ops (headOf id l) l.length = true then some (.draw (headOf id l) l) else none
      else some (.ops l))
  | _ => none

/-! ### Soundness -/
def envOf (a : Act) : Env := fun t => a.tmps.getD t undef
theorem eval_env (a : Act) : a.eval = ev (envOf a) := by funext x; cases x <;> rfl
theorem env_put {a : Act} {d : Nat} (h : d < a.tmps.size) (v : Value) : envOf (a.put (some d) v) = upd (envOf a) d v := by
  funext t
  simp only [envOf, Act.put, upd]
  by_cases ht : t = d
  · subst ht
    simp [h]
  · rw [if_neg ht]
    simp only [Array.getD_eq_getD_getElem?]
    rw [Array.getElem?_setIfInBounds_ne (Ne.symm ht)]
theorem env_putO {a : Act} {n : Nat} (hn : a.tmps.size = n) {d : Option Nat} (h : dstOk n d = true) (v : Value) : envOf (a.put d v) = updO (envOf a) d v := by
  cases d with
  | none => rfl
  | some d => exact env_put (by subst hn; simpa [dstOk] using h) v
theorem put_size (a : Act) (d : Option Nat) (v : Value) : (a.put d v).tmps.size = a.tmps.size := by cases d <;> simp [Act.put]
theorem put_defers (a : Act) (d : Option Nat) (v : Value) : (a.put d v).defers = a.defers := by cases d <;> rfl

theorem strO_spec {P : Program} {ops : Array Oper} {n : Nat} {o : Oper} {x : O} (h : strO P ops n o = some x) :
    x.i = (strOp P o.op).getD .no ∧ x.dst = o.dst ∧ dstOk n o.dst = true ∧
      ∀ a : Act, Region.wanted o (yielded ops a.tmps) = gv (envOf a) x.g := by
  unfold strO at h
  simp only at h
  split at h
  · rename_i hd
    split at h
    · rename_i hg
      cases h
      exact ⟨rfl, rfl, hd, fun a => by simp [Region.wanted, hg, gv]⟩
    · rename_i j b hg
      split at h
      · rename_i d hdd
        cases h
        refine ⟨rfl, rfl, hd, fun a => ?_⟩
        simp only [Region.wanted, hg, gv, yielded, hdd, Option.bind_some, envOf]
        cases hv : a.tmps[d]? with
        | none =>
          have : a.tmps.getD d undef = undef := by simp [Array.getD_eq_getD_getElem?, hv]
          rw [this]
          simp [undef]
        | some v =>
          have : a.tmps.getD d undef = v := by simp [Array.getD_eq_getD_getElem?, hv]
          rw [this]
          cases v <;> simp
      · cases h
  · cases h

theorem i_sound' {P : Program} {o : Oper} {i : I} (hi : i = (strOp P o.op).getD .no) {ρ : Env} {w : World} {K : Value → World → Prop} (h : iW P i ρ w K) : runK P o (ev ρ) w K := by
  cases hs : strOp P o.op with
  | none => rw [hs] at hi; subst hi; exact h.elim
  | some j => rw [hs] at hi; subst hi; exact i_sound hs h
theorem q_sound' {P : Program} {o : Oper} {i : I} (hi : i = (strOp P o.op).getD .no) {a : Act} {ρ : Env} (ha : a.eval = ev ρ) {w : World} {K : Value → Prop} (h : qW P i ρ w K) :
    ∃ v, (∀ w', (∃ n, w' = w.drewN n) → o.quietAt P a (fun w' => ∃ n, w' = w.drewN n) w' v) ∧ K v := by
  cases hs : strOp P o.op with
  | none => rw [hs] at hi; subst hi; exact h.elim
  | some j => rw [hs] at hi; subst hi; exact q_sound hs ha h
theorem r_sound' {P : Program} {o : Oper} {i : I} (hi : i = (strOp P o.op).getD .no) {ρ : Env} {w : World} {K : Value → Prop} (hld : ldB i = false) (h : rW i ρ w K) :
    ∃ v, K v ∧ ∀ w', (execOp (ev ρ) o).run P w' = .ok (.value v) w' := by
  cases hs : strOp P o.op with
  | none => rw [hs] at hi; subst hi; exact h.elim
  | some j =>
    rw [hs] at hi; subst hi
    obtain ⟨v, hK, hr⟩ := r_sound hs h
    exact ⟨v, hK, fun w' => hr w' (fun e => by rw [hld] at e; cases e)⟩

theorem oper_wp {P : Program} {o : Oper} {a : Act} {w : World} {K : Value → World → Prop} {K' : Act → World → Prop} {Q : Exit → Act → World → Prop} (h : runK P o a.eval w K) (hK : ∀ v w', K v w' → K' (a.put o.dst v) w') : o.wp P a w K' Q := by
  unfold runK at h
  unfold Oper.wp
  generalize (execOp a.eval o).run P w = r at *
  cases r with
  | halt x w' => exact h.elim
  | ok x w' =>
    cases x <;> first | exact h.elim | skip
    case value v => exact hK _ _ h
    case skip => exact hK _ _ h
    case enter f args =>
      rw [Oper.upon_enter]
      simp only [callK, Array.toArray_toList] at h
      exact h.mono fun e w'' ⟨v, he, hv⟩ => by subst he; exact hK _ _ hv

theorem ops_sound {P : Program} {ops : Array Oper} {n : Nat} {Q : Exit → Act → World → Prop} {dfs : List Deferred} {K : Env → World → Prop} (hQ : ∀ a w, a.tmps.size = n → a.defers = dfs → K (envOf a) w → Q .normal a w) :
    ∀ (l : List Oper) (l' : List O), strL P ops n l = some l' → ∀ (a : Act) (w : World), a.tmps.size = n → a.defers = dfs → opsW P l' K (envOf a) w → wpList P ops Q l a w
  | [], l', hl, a, w, hs, hd, h => by
    simp only [strL, Option.some.injEq] at hl
    subst hl
    exact hQ a w hs hd h
  | o :: r, l', hl, a, w, hs, hd, h => by
    simp only [strL] at hl
    split at hl
    · rename_i x t hx ht
      cases hl
      obtain ⟨hi, hdst, hlt, hg⟩ := strO_spec hx
      simp only [opsW, gK, ← hg a] at h
      refine wpList_step fun K' hK' => ?_
      split at h
      · rename_i hw
        rw [if_pos hw]
        refine oper_wp (K := fun v w' => opsW P t K (updO (envOf a) x.dst v) w') (by rw [eval_env]; exact i_sound' hi h) (fun v w' hv => hK' _ _ ?_)
        refine ops_sound hQ r t ht _ _ (by rw [put_size]; exact hs) (by rw [put_defers]; exact hd) ?_
        rw [env_putO hs hlt, ← hdst]; exact hv
      · rename_i hw
        rw [if_neg hw]
        refine hK' _ _ ?_
        refine ops_sound hQ r t ht _ _ (by rw [put_size]; exact hs) (by rw [put_defers]; exact hd) ?_
        rw [env_putO hs hlt, ← hdst]; exact h
    · cases hl

theorem strL_take {P : Program} {ops : Array Oper} {n : Nat} : ∀ (l : List Oper) (l' : List O), strL P ops n l = some l' → l'.length = l.length ∧ ∀ k, strL P ops n (l.take k) = some (l'.take k) ∧ strL P ops n (l.drop k) = some (l'.drop k)
  | [], l', hl => by
    simp only [strL, Option.some.injEq] at hl
    subst hl
    exact ⟨rfl, fun k => by simp [strL]⟩
  | o :: r, l', hl => by
    simp only [strL] at hl
    split at hl
    · rename_i x t hx ht
      cases hl
      obtain ⟨h1, h2⟩ := strL_take r t ht
      refine ⟨by simp [h1], fun k => ?_⟩
      cases k with
      | zero => simp [strL, hx, ht]
      | succ k => simp [strL, hx, (h2 k).1, (h2 k).2]
    · cases hl

theorem qops_sound {P : Program} {ops : Array Oper} {n : Nat} {dfs : List Deferred} {w : World} {K : Env → Prop} {Q : Act → Prop} (hQ : ∀ a, a.tmps.size = n → a.defers = dfs → K (envOf a) → Q a) :
    ∀ (l : List Oper) (l' : List O), strL P ops n l = some l' → ∀ (a : Act), a.tmps.size = n → a.defers = dfs → qopsW P w l' K (envOf a) → wpQuiet P ops (fun w' => ∃ m, w' = w.drewN m) Q l a
  | [], l', hl, a, hs, hd, h => by
    simp only [strL, Option.some.injEq] at hl
    subst hl
    exact hQ a hs hd h
  | o :: r, l', hl, a, hs, hd, h => by
    simp only [strL] at hl
    split at hl
    · rename_i x t hx ht
      cases hl
      obtain ⟨hi, hdst, hlt, hg⟩ := strO_spec hx
      simp only [qopsW, gK, ← hg a] at h
      simp only [wpQuiet]
      split at h
      · rename_i hw
        rw [if_pos hw]
        obtain ⟨v, hv, hK⟩ := q_sound' hi (eval_env a) h
        refine ⟨v, hv, ?_⟩
        refine qops_sound hQ r t ht _ (by rw [put_size]; exact hs) (by rw [put_defers]; exact hd) ?_
        rw [env_putO hs hlt, ← hdst]; exact hK
      · rename_i hw
        rw [if_neg hw]
        refine qops_sound hQ r t ht _ (by rw [put_size]; exact hs) (by rw [put_defers]; exact hd) ?_
        rw [env_putO hs hlt, ← hdst]; exact h
    · cases hl

theorem strL_get {P : Program} {ops : Array Oper} {n : Nat} : ∀ (l : List Oper) (l' : List O), strL P ops n l = some l' → ∀ (i : Nat) (x : O), l'[i]? = some x → ∃ o, l[i]? = some o ∧ strO P ops n o = some x
  | [], l', hl, i, x, hx => by
    simp only [strL, Option.some.injEq] at hl
    subst hl
    simp at hx
  | o :: r, l', hl, i, x, hx => by
    simp only [strL] at hl
    split at hl
    · rename_i y t hy ht
      cases hl
      cases i with
      | zero => simp at hx; subst hx; exact ⟨o, rfl, hy⟩
      | succ i => simp at hx; obtain ⟨o', ho', hs⟩ := strL_get r t ht i x hx; exact ⟨o', by simpa using ho', hs⟩
    · cases hl

theorem mOp_of {P : Program} {ops : Array Oper} {i : Nat} {o : Oper} (ho : ops[i]? = some o) {a : Act} {w : World} {K' : Act → World → Prop} {K : Value → World → Prop}
    (h : if Region.wanted o (yielded ops a.tmps) = true then runK P o a.eval w K else K undef w) (hK : ∀ v w', K v w' → K' (a.put o.dst v) w') : mOp P ops i K' a w := by
  unfold mOp
  simp only [ho]
  split at h
  · rename_i hw
    rw [if_pos hw]
    unfold runK at h
    generalize (execOp a.eval o).run P w = r at *
    cases r with
    | halt x w' => exact h.elim
    | ok x w' =>
      cases x <;> first | exact h.elim | skip
      case value v => exact hK _ _ h
      case skip => exact hK _ _ h
      case enter f args =>
        simp only [callK, Array.toArray_toList] at h
        exact h.mono fun e w'' ⟨v, he, hv⟩ => ⟨v, he, hK _ _ hv⟩
  · rename_i hw
    rw [if_neg hw]
    exact hK _ _ h

theorem scr_sound {P : Program} {ops : Array Oper} {n : Nat} {dfs : List Deferred} {K : Env → World → Prop} {Q : Act → World → Prop} {D : List Nat} {ls : List O} (hls : strL P ops n ops.toList = some ls) (hsel : Region.noSelect ops = true)
    (hQ : ∀ a w, a.tmps.size = n → a.defers = dfs → K (envOf a) w → Q a w) :
    ∀ (s : List (Nat × Nat)) (listed : Array Bool) (a : Act) (w : World), Closed .any ops listed → scrOk ops D ls s listed = true → a.tmps.size = n → a.defers = dfs → scrW P ls s K (envOf a) w → wpM P .any ops D Q s.length listed a w
  | [], listed, a, w, hc, hk, hs, hd, h => by
    simp only [scrOk, List.isEmpty_iff] at hk
    exact ⟨hk, fun w' ⟨m, hm⟩ => by subst hm; exact hQ _ _ hs hd (h m)⟩
  | (k, i) :: r, listed, a, w, hc, hk, hs, hd, h => by
    simp only [scrOk, Bool.and_eq_true] at hk
    obtain ⟨⟨hready, hrest⟩, hkind⟩ := hk
    have hready : i ∈ Region.ready .any ops listed := by simpa using hready
    simp only [scrW] at h
    split at h
    · exact h.elim
    · rename_i x hx
      obtain ⟨o, ho, hxo⟩ := strL_get _ _ hls i x hx
      have ho : ops[i]? = some o := by simpa using ho
      obtain ⟨hi, hdst, hlt, hg⟩ := strO_spec hxo
      have step : ∀ v w', scrW P ls r K (updO (envOf a) x.dst v) w' → wpM P .any ops D Q r.length (listed.setIfInBounds i true) (a.put o.dst v) w' := fun v w' hv =>
        scr_sound hls hsel hQ r _ _ w' (hc.set hready) hrest (by rw [put_size]; exact hs) (by rw [put_defers]; exact hd) (by rw [env_putO hs hlt, ← hdst]; exact hv)
      have hsel' := Region.noSelect_spec hsel
      split at h
      · simp only [Bool.and_eq_true, Bool.not_eq_true'] at hkind
        obtain ⟨⟨hD, hf⟩, hld⟩ := hkind
        have hD : i ∉ D := by simpa using hD
        have hld : ldB x.i = false := by simpa [hx] using hld
        simp only [gK, ← hg a] at h
        by_cases hw : Region.wanted o (yielded ops a.tmps) = true
        · rw [if_pos hw] at h
          obtain ⟨v, hK, hr⟩ := r_sound' hi hld h
          exact wpM_pure ho hsel' hD _ _ _ _ (Region.free_spec ho hf) hready (.inl ⟨hw, by rw [eval_env]; exact hr⟩) (step v w hK)
        · rw [if_neg hw] at h
          exact wpM_pure ho hsel' hD _ _ _ _ (Region.free_spec ho hf) hready (.inr ⟨by simpa using hw, rfl⟩) (step _ w h)
      · simp only [Bool.and_eq_true, Bool.not_eq_true', List.all_eq_true, Bool.or_eq_true] at hkind
        obtain ⟨⟨hD, hf⟩, hreach⟩ := hkind
        have hD : i ∉ D := by simpa using hD
        simp only [gK, ← hg a] at h
        by_cases hw : Region.wanted o (yielded ops a.tmps) = true
        · rw [if_pos hw] at h
          obtain ⟨v, hv, hK⟩ := q_sound' hi (eval_env a) h
          exact wpM_quiet ho hsel' hD _ _ _ hc hreach (Region.free_spec ho hf) hready (.inl ⟨hw, hv⟩) (step v w hK)
        · rw [if_neg hw] at h
          exact wpM_quiet ho hsel' hD _ _ _ hc hreach (Region.free_spec ho hf) hready (.inr ⟨by simpa using hw, rfl⟩) (step _ w h)
      · simp only [Bool.and_eq_true, decide_eq_true_eq] at hkind
        obtain ⟨hD, hone⟩ := hkind
        have hD : i ∈ D := by simpa using hD
        refine ⟨fun h0 => (by rw [h0] at hone; cases hone), fun j hj => ?_⟩
        rw [hone] at hj
        have hj : j = i := by simpa using hj
        subst hj
        rw [if_pos hD]
        rintro w' ⟨m, rfl⟩
        have hm := h m
        simp only [gK, ← hg a] at hm
        refine mOp_of ho (K := fun v w' => scrW P ls r K (updO (envOf a) x.dst v) w') ?_ (fun v w' hv => step v w' hv)
        split at hm
        · rename_i hw
          rw [if_pos hw, eval_env]
          exact i_sound' hi hm
        · rename_i hw
          rw [if_neg hw]
          exact hm

theorem ld_det {w : World} {k : TyK} {p : Addr} {K : Value → Prop} (h : ldK w k p K) : ∃ v, K v ∧ ldK w k p (fun v' => v' = v) := by
  cases k with
  | int k => obtain ⟨x, hc, hK⟩ := h; exact ⟨_, hK, x, hc, rfl⟩
  | bool => obtain ⟨x, hc, hK⟩ := h; exact ⟨_, hK, x, hc, rfl⟩
  | string => obtain ⟨x, hc, hK⟩ := h; exact ⟨_, hK, x, hc, rfl⟩
  | pointer => obtain ⟨x, hc, hK⟩ := h; exact ⟨_, hK, x, hc, rfl⟩
  | slice => obtain ⟨x, y, z, hc, hK⟩ := h; exact ⟨_, hK, x, y, z, hc, rfl⟩
  | other => obtain ⟨x, hc, hK⟩ := h; exact ⟨_, hK, x, hc, rfl⟩
  | agg n => obtain ⟨cs, h1, h2, hK⟩ := h; exact ⟨_, hK, cs, h1, h2, rfl⟩
def scrRes (P : Program) (ops : Array Oper) (D : List Nat) (Q : Act → World → Prop) (t : Scr) (cs : List (TyK × Addr × Value)) (listed : Array Bool) (a : Act) (w : World) : Prop :=
  if t.proper = true then wpC P .any ops D (allC cs) Q t.depth listed a w
  else ∀ j ∈ t.heads, j ∈ D ∧ ∀ w', Near w w' → mOp P ops j (fun a' w'' => allC cs w'' ∧ wpC P .any ops D (allC cs) Q (t.depth - 1) (listed.setIfInBounds j true) a' w'') a w'
theorem scrT_sound {P : Program} {ops : Array Oper} {n : Nat} {dfs : List Deferred} {K : Env → World → Prop} {Q : Act → World → Prop} {D : List Nat} {ls : List O} (hls : strL P ops n ops.toList = some ls) (hsel : Region.noSelect ops = true)
    (hQ : ∀ a w, a.tmps.size = n → a.defers = dfs → K (envOf a) w → Q a w) :
    ∀ (t : Scr) (cs : List (TyK × Addr × Value)) (listed : Array Bool) (a : Act) (w : World), Closed .any ops listed → scrOkT ops D ls t listed = true → a.tmps.size = n → a.defers = dfs → scrT P ls t cs K (envOf a) w → scrRes P ops D Q t cs listed a w
  | .nil, cs, listed, a, w, hc, hk, hs, hd, h => by
    simp only [scrOkT, List.isEmpty_iff] at hk
    unfold scrRes
    rw [if_pos (show (_ : Scr).proper = true from rfl)]
    exact ⟨hk, fun w' ⟨m, hm⟩ => by subst hm; exact hQ _ _ hs hd (h m)⟩
  | .st k i r, cs, listed, a, w, hc, hk, hs, hd, h => by
    unfold scrRes
    rw [if_pos (show (_ : Scr).proper = true from rfl)]
    simp only [scrOkT, Bool.and_eq_true] at hk
    obtain ⟨⟨⟨hready, hprop⟩, hrest⟩, hkind⟩ := hk
    have hready : i ∈ Region.ready .any ops listed := by simpa using hready
    simp only [scrT] at h
    split at h
    · exact h.elim
    · rename_i x hx
      obtain ⟨o, ho, hxo⟩ := strL_get _ _ hls i x hx
      have ho : ops[i]? = some o := by simpa using ho
      obtain ⟨hi, hdst, hlt, hg⟩ := strO_spec hxo
      have step : ∀ cs v w', scrT P ls r cs K (updO (envOf a) x.dst v) w' → wpC P .any ops D (allC cs) Q r.depth (listed.setIfInBounds i true) (a.put o.dst v) w' := fun cs v w' hv => by
        have := scrT_sound hls hsel hQ r cs (listed.setIfInBounds i true) (a.put o.dst v) w' (hc.set hready) hrest (by rw [put_size]; exact hs) (by rw [put_defers]; exact hd) (by rw [env_putO hs hlt, ← hdst]; exact hv)
        unfold scrRes at this
        rwa [if_pos hprop] at this
      have hsel' := Region.noSelect_spec hsel
      split at h
      · simp only [Bool.and_eq_true, Bool.not_eq_true'] at hkind
        obtain ⟨⟨hD, hf⟩, hld⟩ := hkind
        have hD : i ∉ D := by simpa using hD
        have hld : ldB x.i = false := by simpa [hx] using hld
        simp only [gK, ← hg a] at h
        by_cases hw : Region.wanted o (yielded ops a.tmps) = true
        · rw [if_pos hw] at h
          obtain ⟨v, hK, hr⟩ := r_sound' hi hld h
          exact wpC_pure ho hsel' hD _ _ _ _ (Region.free_spec ho hf) hready (.inl ⟨hw, by rw [eval_env]; exact hr⟩) (step cs v w hK)
        · rw [if_neg hw] at h
          exact wpC_pure ho hsel' hD _ _ _ _ (Region.free_spec ho hf) hready (.inr ⟨by simpa using hw, rfl⟩) (step cs _ w h)
      · simp only [Bool.and_eq_true, Bool.not_eq_true', List.all_eq_true, Bool.or_eq_true] at hkind
        obtain ⟨⟨hD, hf⟩, hreach⟩ := hkind
        have hD : i ∉ D := by simpa using hD
        simp only [gK, ← hg a] at h
        by_cases hw : Region.wanted o (yielded ops a.tmps) = true
        · rw [if_pos hw] at h
          obtain ⟨v, hv, hK⟩ := q_sound' hi (eval_env a) h
          exact wpC_quiet ho hsel' hD _ _ _ hc hreach (Region.free_spec ho hf) hready (.inl ⟨hw, hv⟩) (step cs v w hK)
        · rw [if_neg hw] at h
          exact wpC_quiet ho hsel' hD _ _ _ hc hreach (Region.free_spec ho hf) hready (.inr ⟨by simpa using hw, rfl⟩) (step cs _ w h)
      · simp only [Bool.and_eq_true, Bool.not_eq_true'] at hkind
        obtain ⟨hD, hf⟩ := hkind
        have hD : i ∉ D := by simpa using hD
        simp only [gK, ← hg a] at h
        by_cases hw : Region.wanted o (yielded ops a.tmps) = true
        · rw [if_pos hw] at h
          unfold fltK at h
          split at h
          · rename_i k' a' hxi
            obtain ⟨p, hp, h⟩ := ptrK_elim h
            obtain ⟨v, hK, hl⟩ := ld_det h
            refine wpC_float (Cf := fun w' => ldK w' k' p (fun v' => v' = v)) ho hsel' hD _ _ _ _ (Region.free_spec ho hf) hready (fun w' hw' => .inl ⟨hw, ?_⟩) hl (step _ v w hK)
            have hr : rW x.i (envOf a) w' (fun v' => v' = v) := by rw [hxi]; show ptrK _ _; rw [hp]; exact hw'
            obtain ⟨v2, hv2, e2⟩ := q_sound' hi (eval_env a) (show qW P x.i (envOf a) w' (fun v' => v' = v) by rw [hxi] at hr ⊢; exact hr)
            subst e2
            exact hv2
          · exact h.elim
        · rw [if_neg hw] at h
          exact wpC_pure ho hsel' hD _ _ _ _ (Region.free_spec ho hf) hready (.inr ⟨by simpa using hw, rfl⟩) (step cs _ w h)
  | .one i r, cs, listed, a, w, hc, hk, hs, hd, h => by
    unfold scrRes
    rw [if_neg (by simp [Scr.proper])]
    simp only [scrOkT, Bool.and_eq_true] at hk
    obtain ⟨⟨⟨hD, hready⟩, hprop⟩, hrest⟩ := hk
    have hready : i ∈ Region.ready .any ops listed := by simpa using hready
    have hD : i ∈ D := by simpa using hD
    intro j hj
    have hj : j = i := by simpa [Scr.heads] using hj
    subst hj
    refine ⟨hD, ?_⟩
    simp only [scrT] at h
    split at h
    · exact h.elim
    · rename_i x hx
      obtain ⟨o, ho, hxo⟩ := strL_get _ _ hls j x hx
      have ho : ops[j]? = some o := by simpa using ho
      obtain ⟨hi, hdst, hlt, hg⟩ := strO_spec hxo
      rintro w' ⟨m, rfl⟩
      have hm := h m
      simp only [gK, ← hg a] at hm
      refine mOp_of ho (K := fun v w' => allC cs w' ∧ scrT P ls r cs K (updO (envOf a) x.dst v) w') ?_ (fun v w' hv => ⟨hv.1, ?_⟩)
      · split at hm
        · rename_i hw
          rw [if_pos hw, eval_env]
          exact i_sound' hi hm
        · rename_i hw
          rw [if_neg hw]
          exact hm
      · have := scrT_sound hls hsel hQ r cs (listed.setIfInBounds j true) (a.put o.dst v) w' (hc.set hready) hrest (by rw [put_size]; exact hs) (by rw [put_defers]; exact hd) (by rw [env_putO hs hlt, ← hdst]; exact hv.2)
        unfold scrRes at this
        rw [if_pos hprop] at this
        exact this
  | .more i r c, cs, listed, a, w, hc, hk, hs, hd, h => by
    unfold scrRes
    rw [if_neg (by simp [Scr.proper])]
    simp only [scrOkT, Bool.and_eq_true, decide_eq_true_eq, Bool.not_eq_true'] at hk
    obtain ⟨⟨⟨⟨⟨⟨hD, hready⟩, hprop⟩, hrest⟩, hcp⟩, hdep⟩, hcok⟩ := hk
    have hready : i ∈ Region.ready .any ops listed := by simpa using hready
    have hD : i ∈ D := by simpa using hD
    simp only [scrT] at h
    intro j hj
    have hj : j = i ∨ j ∈ c.heads := by simpa [Scr.heads] using hj
    rcases hj with rfl | hj
    · refine ⟨hD, ?_⟩
      have h := h.1
      split at h
      · exact h.elim
      · rename_i x hx
        obtain ⟨o, ho, hxo⟩ := strL_get _ _ hls j x hx
        have ho : ops[j]? = some o := by simpa using ho
        obtain ⟨hi, hdst, hlt, hg⟩ := strO_spec hxo
        rintro w' ⟨m, rfl⟩
        have hm := h m
        simp only [gK, ← hg a] at hm
        refine mOp_of ho (K := fun v w' => allC cs w' ∧ scrT P ls r cs K (updO (envOf a) x.dst v) w') ?_ (fun v w' hv => ⟨hv.1, ?_⟩)
        · split at hm
          · rename_i hw
            rw [if_pos hw, eval_env]
            exact i_sound' hi hm
          · rename_i hw
            rw [if_neg hw]
            exact hm
        · have := scrT_sound hls hsel hQ r cs (listed.setIfInBounds j true) (a.put o.dst v) w' (hc.set hready) hrest (by rw [put_size]; exact hs) (by rw [put_defers]; exact hd) (by rw [env_putO hs hlt, ← hdst]; exact hv.2)
          unfold scrRes at this
          rw [if_pos hprop] at this
          exact this
    · have := scrT_sound hls hsel hQ c cs _ _ w hc hcok hs hd h.2
      unfold scrRes at this
      rw [if_neg (by rw [hcp]; simp)] at this
      have h2 := this j hj
      rw [hdep] at h2
      exact h2
  | .cov c, cs, listed, a, w, hc, hk, hs, hd, h => by
    simp only [scrOkT, Bool.and_eq_true, Bool.not_eq_true', List.all_eq_true] at hk
    obtain ⟨⟨⟨hcp, hne⟩, hall⟩, hcok⟩ := hk
    have hne : Region.ready .any ops listed ≠ [] := by simpa using hne
    have := scrT_sound hls hsel hQ c cs _ _ w hc hcok hs hd h
    unfold scrRes at this ⊢
    rw [if_neg (by rw [hcp]; simp)] at this
    rw [if_pos (show (Scr.cov c).proper = true from rfl)]
    have hpos : ∃ f, c.depth = f + 1 := by
      cases c with
      | nil => simp [Scr.proper] at hcp
      | st => simp [Scr.proper] at hcp
      | cov => simp [Scr.proper] at hcp
      | one i r => exact ⟨_, rfl⟩
      | more i r c => exact ⟨_, rfl⟩
    obtain ⟨f, hf⟩ := hpos
    show wpC P .any ops D (allC cs) Q c.depth listed a w
    rw [hf] at this ⊢
    refine ⟨fun h0 => absurd h0 hne, fun j hj => ?_⟩
    have hjh : j ∈ c.heads := by simpa using hall j hj
    obtain ⟨hD, hm⟩ := this j hjh
    rw [if_pos hD]
    exact hm

/-- The post that the engine brings. -/
def post (n : Nat) (dfs : List Deferred) (K : Exit → Env → World → Prop) : Exit → Act → World → Prop := fun e a w => a.tmps.size = n ∧ a.defers = dfs ∧ K e (envOf a) w

theorem loop_sound {P : Program} {c : Code} {n : Nat} {dfs : List Deferred} {B : (Exit → Env → World → Prop) → Env → World → Prop} {K : Exit → Env → World → Prop}
    (hB : ∀ (K' : Exit → Env → World → Prop) (a : Act) (w : World), a.tmps.size = n → a.defers = dfs → B K' (envOf a) w → c.wp P (post n dfs K') a w) :
    ∀ (m : Nat) (a : Act) (w : World), a.tmps.size = n → a.defers = dfs → loopN B K m (envOf a) w → (Code.loop c).wp P (post n dfs K) a w := by
  intro m a w hs hd h b k cs
  have key : ∀ m a w, a.tmps.size = n → a.defers = dfs → loopN B K m (envOf a) w →
      ∃ e a' w', post n dfs K e a' w' ∧ Arrives P (lone (b.at a (.code c :: .inLoop c :: k)) cs w) b k cs e a' w' := by
    intro m
    induction m with
    | zero => intro a w _ _ h; exact h.elim
    | succ m ih =>
      intro a w hs hd h
      obtain ⟨e, a₁, w₁, hq, harr⟩ := hB _ a w hs hd h b (.inLoop c :: k) cs
      obtain ⟨hs₁, hd₁, hK⟩ := hq
      cases e with
      | normal =>
        obtain ⟨e₂, a₂, w₂, hq₂, harr₂⟩ := ih a₁ w₁ hs₁ hd₁ hK
        exact ⟨e₂, a₂, w₂, hq₂, .of_steps (Steps.trans harr (.one step_inLoop)) harr₂⟩
      | exit id => exact ⟨_, a₁, w₁, ⟨hs₁, hd₁, hK⟩, .pass (x := .inLoop c) rfl (fun _ _ => .inl (by simp)) harr⟩
      | goto l => exact ⟨_, a₁, w₁, ⟨hs₁, hd₁, hK⟩, .pass (x := .inLoop c) rfl (fun _ _ => .inl (by simp)) harr⟩
      | ret => exact ⟨_, a₁, w₁, ⟨hs₁, hd₁, hK⟩, .pass (x := .inLoop c) rfl (fun _ _ => .inl (by simp)) harr⟩
      | panic ch => exact ⟨_, a₁, w₁, ⟨hs₁, hd₁, hK⟩, .pass (x := .inLoop c) rfl (fun _ _ => .inl (by simp)) harr⟩
      | outgrown => exact ⟨_, a₁, w₁, ⟨hs₁, hd₁, hK⟩, .pass (x := .inLoop c) rfl (fun _ _ => .inl (by simp)) harr⟩
  obtain ⟨e, a', w', hq, harr⟩ := key m a w hs hd h
  exact ⟨e, a', w', hq, .of_steps (.one step_loop) harr⟩

theorem S_sound {P : Program} {n : Nat} {dn : List (Nat × Sc)} {dfs : List Deferred} : ∀ (c : Code) (s : S), strS P n dn c = some s → ∀ (K : Exit → Env → World → Prop) (a : Act) (w : World), a.tmps.size = n → a.defers = dfs → s.W P K (envOf a) w → c.wp P (post n dfs K) a w := by
  intro c
  induction c with
  | skip => intro s hs K a w ha hd h; cases hs; exact wp_skip ⟨ha, hd, h⟩
  | ret => intro s hs K a w ha hd h; cases hs; exact wp_ret ⟨ha, hd, h⟩
  | exit id => intro s hs K a w ha hd h; cases hs; exact wp_exit ⟨ha, hd, h⟩
  | seq x y ihx ihy =>
    intro s hs K a w ha hd h
    simp only [strS] at hs
    split at hs
    · rename_i sx sy hx hy
      have h : sx.W P (seqK (sy.W P K) K) (envOf a) w := by split at hs <;> cases hs <;> exact h
      refine wp_seq (wp_mono (ihx sx hx (seqK (sy.W P K) K) a w ha hd h) ?_)
      rintro e a' w' ⟨ha', hd', h'⟩
      cases e with
      | normal => exact ihy sy hy K a' w' ha' hd' h'
      | exit id => exact ⟨ha', hd', h'⟩
      | goto l => exact ⟨ha', hd', h'⟩
      | ret => exact ⟨ha', hd', h'⟩
      | panic ch => exact ⟨ha', hd', h'⟩
      | outgrown => exact ⟨ha', hd', h'⟩
    · cases hs
  | cond c x y ihx ihy =>
    intro s hs K a w ha hd h
    simp only [strS] at hs
    split at hs
    · rename_i sx sy hx hy
      cases hs
      obtain ⟨t, ht, h⟩ := boolK_elim h
      refine wp_cond (t := t) (by rw [eval_env]; exact ht) ?_
      cases t with
      | true => exact ihx sx hx K a w ha hd h
      | false => exact ihy sy hy K a w ha hd h
    · cases hs
  | block id b ih =>
    intro s hs K a w ha hd h
    simp only [strS, Option.map_eq_some_iff] at hs
    obtain ⟨sb, hb, rfl⟩ := hs
    refine wp_block (wp_mono (ih sb hb (blkK id K) a w ha hd h) ?_)
    rintro e a' w' ⟨ha', hd', h'⟩
    cases e with
    | exit j =>
      simp only [blkK] at h'
      simp only [Exit.inBlock]
      split at h' <;> rename_i hj
      · rw [if_pos hj]; exact ⟨ha', hd', h'⟩
      · rw [if_neg hj]; exact ⟨ha', hd', h'⟩
    | normal => exact ⟨ha', hd', h'⟩
    | goto l => exact ⟨ha', hd', h'⟩
    | ret => exact ⟨ha', hd', h'⟩
    | panic ch => exact ⟨ha', hd', h'⟩
    | outgrown => exact ⟨ha', hd', h'⟩
  | loop b ih =>
    intro s hs K a w ha hd h
    simp only [strS, Option.map_eq_some_iff] at hs
    obtain ⟨sb, hb, rfl⟩ := hs
    obtain ⟨m, h⟩ := h
    exact loop_sound (fun K' a w ha hd h => ih sb hb K' a w ha hd h) m a w ha hd h
  | region id ops draw =>
    intro s hs K a w ha hd h
    simp only [strS] at hs
    split at hs
    · cases hs
    · rename_i l hl
      split at hs
      · rename_i hdr
        subst hdr
        split at hs
        · rename_i q scr hfind
          split at hs
          · rename_i hc
            cases hs
            simp only [scriptOk, Bool.and_eq_true, decide_eq_true_eq] at hc
            obtain ⟨⟨⟨hfo, hsel⟩, hlen⟩, hok⟩ := hc
            have hM := scr_sound (dfs := dfs) (Q := fun a w => post n dfs K .normal a w) hl hsel (fun a w h1 h2 h3 => ⟨h1, h2, h3⟩) scr _ a w.drew (Closed.start _) hok ha hd h
            refine wp_region_any hfo ?_
            rw [hlen] at hM
            exact wpM_any (fun a w h => h) _ _ _ _ hM _ ⟨0, rfl⟩
          · cases hs
        · rename_i q scr hfind
          split at hs
          · rename_i hc
            cases hs
            simp only [scriptOkT, Bool.and_eq_true, decide_eq_true_eq] at hc
            obtain ⟨⟨⟨⟨hfo, hsel⟩, hlen⟩, hprop⟩, hok⟩ := hc
            have hM := scrT_sound (dfs := dfs) (Q := fun a w => post n dfs K .normal a w) hl hsel (fun a w h1 h2 h3 => ⟨h1, h2, h3⟩) scr [] _ a w.drew (Closed.start _) hok ha hd h
            unfold scrRes at hM
            rw [if_pos hprop, hlen] at hM
            refine wp_region_any hfo ?_
            exact wpC_any (fun a w h => h) _ _ _ _ hM _ ⟨0, rfl⟩
          · cases hs
        · split at hs
          · rename_i hc
            simp only [drawOk, Bool.and_eq_true] at hc
            cases hs
            obtain ⟨hlen, htk⟩ := strL_take ops.toList l hl
            have hlit : ops = ops.toList.toArray := by simp
            generalize hk : headOf id l = k at *
            simp only [S.W] at h
            by_cases hlt : k < l.length
            · rw [if_pos hlt] at hc
              rw [hlit]
              refine wp_region_quiet_tail (C := fun w' => ∃ m, w' = w.drewN m) k hc.1 (by rw [← hlit]; exact hc.2) ⟨1, rfl⟩ ?_
              rw [← hlit]
              refine qops_sound (dfs := dfs) (K := fun ρ' => ∀ m, opsW P (l.drop k) (K .normal) ρ' (w.drewN m)) (fun a' ha' hd' h' w' hw' => ?_) _ _ (htk k).1 a ha hd h
              obtain ⟨m, rfl⟩ := hw'
              exact ops_sound (dfs := dfs) (fun a w h1 h2 h3 => ⟨h1, h2, h3⟩) _ _ (htk k).2 a' _ ha' hd' (h' m)
            · rw [if_neg hlt] at hc
              refine wp_region_quiet (C := fun w' => ∃ m, w' = w.drewN m) hc.1 hc.2 ⟨1, rfl⟩ ?_
              have h1 := (htk k).1
              rw [List.take_of_length_le (by omega), List.take_of_length_le (by omega)] at h1
              rw [List.take_of_length_le (by omega), List.drop_eq_nil_of_le (by omega)] at h
              refine qops_sound (dfs := dfs) (K := fun ρ' => ∀ m, opsW P [] (K .normal) ρ' (w.drewN m)) (fun a' ha' hd' h' w' hw' => ?_) _ _ h1 a ha hd h
              obtain ⟨m, rfl⟩ := hw'
              exact ⟨ha', hd', h' m⟩
          · cases hs
      · rename_i hdr
        have hdr : draw = false := by simpa using hdr
        subst hdr
        cases hs
        refine wp_region_list ?_
        exact ops_sound (dfs := dfs) (fun a w h1 h2 h3 => ⟨h1, h2, h3⟩) _ _ hl a w ha hd h
  | _ => intro s hs; cases hs

/-- What a function's results are. -/
def resK (P : Program) (rs : List (Sum Nat (TyK × Nat))) (ρ : Env) (w : World) (K : List Value → Prop) : Prop :=
  match rs with
  | [] => K []
  | .inl t :: r => resK P r ρ w fun vs => K (ρ t :: vs)
  | .inr (k, t) :: r => ptrK (ρ t) fun p => ldK w k p fun v => resK P r ρ w fun vs => K (v :: vs)
def strR (P : Program) : List ResultVar → Option (List (Sum Nat (TyK × Nat)))
  | [] => some []
  | .tmp t :: r => (strR P r).map (.inl t :: ·)
  | .cell a t :: r => (match tyk P t, strR P r with
    | some k, some l => if (P.info? t).isSome then some (.inr (k, a) :: l) else none
    | _, _ => none)
def packV : List Value → Value
  | [v] => v
  | vs => .tuple vs.toArray

theorem res_run {P : Program} {a : Act} {w : World} : ∀ (rs : List ResultVar) (l : List (Sum Nat (TyK × Nat))), strR P rs = some l → ∀ K, resK P l (envOf a) w K → ∃ vs : List Value, K vs ∧ ∀ acc : Array Value,
    (List.foldlM (fun (b : Array Value) (r : ResultVar) => do pure (b.push (← (match r with | .tmp t => pure (a.tmps.getD t undef) | .cell c t => do loadVar t (← asAddr (a.tmps.getD c undef)) : Sem Value)))) acc rs : Sem (Array Value)).run P w = .ok (acc ++ vs.toArray) w
  | [], l, hl, K, h => by
    cases hl
    exact ⟨[], h, fun acc => by simp⟩
  | .tmp t :: r, l, hl, K, h => by
    simp only [strR, Option.map_eq_some_iff] at hl
    obtain ⟨l', hl', rfl⟩ := hl
    obtain ⟨vs, hK, hr⟩ := res_run r l' hl' _ h
    refine ⟨_ :: vs, hK, fun acc => ?_⟩
    simp only [List.foldlM_cons, Sem.run_bind, Sem.run_pure, Result.andThen_ok]
    rw [hr]
    simp [envOf]
  | .cell c t :: r, l, hl, K, h => by
    simp only [strR] at hl
    split at hl
    · rename_i k l' hk hl'
      split at hl
      · rename_i hinfo
        cases hl
        obtain ⟨p, hp, h⟩ := ptrK_elim h
        obtain ⟨v, hK, hrun⟩ := ld_run hk hinfo h
        obtain ⟨vs, hK, hr⟩ := res_run r l' hl' _ hK
        refine ⟨v :: vs, hK, fun acc => ?_⟩
        have hp' : a.tmps.getD c undef = .pointer (some p) := hp
        have hl0 := hrun w rfl
        have ha : (asAddr (a.tmps.getD c undef)).run P w = .ok p w := by rw [hp']; rfl
        simp only [List.foldlM_cons, Sem.run_bind, Sem.run_pure, Result.andThen_ok, ha, hl0]
        rw [hr]
        simp
      · cases hl
    · cases hl

theorem results_run {P : Program} {fn : Func} {a : Act} {w : World} {l : List (Sum Nat (TyK × Nat))} (hl : strR P fn.results.toList = some l) {K : Value → Prop} (h : resK P l (envOf a) w fun vs => K (packV vs)) :
    ∃ v, (results fn a.tmps).run P w = .ok v w ∧ K v := by
  obtain ⟨vs, hK, hr⟩ := res_run fn.results.toList l hl _ h
  refine ⟨_, ?_, hK⟩
  have hm := hr #[]
  simp only [results, Sem.run_bind]
  rw [Array.mapM_eq_foldlM, ← Array.foldlM_toList]
  rw [show (#[] : Array Value) ++ vs.toArray = vs.toArray by simp] at hm
  refine (congrArg (fun r => Result.andThen r _) hm).trans ?_
  simp only [Result.andThen_ok, Sem.run_pure]
  congr 1
  match vs with
  | [] => rfl
  | [v] => rfl
  | v :: u :: r => simp [packV]

/-- A function's code as the engine has it. -/
structure Fun where
  n : Nat
  res : List (Sum Nat (TyK × Nat))
  code : S
def strF (P : Program) (dn : List (Nat × Sc)) (fn : Func) : Option Fun :=
  match fn.body with
  | none => none
  | some c => (match strS P fn.ntmps dn c, strR P fn.results.toList with
    | some s, some r => some ⟨fn.ntmps, r, s⟩
    | _, _ => none)
def env0 (args : List Value) : Env := fun t => args.getD t undef
def retK (P : Program) (f : Fun) (K : Value → World → Prop) : Exit → Env → World → Prop
  | .normal, ρ, w | .ret, ρ, w => resK P f.res ρ w fun vs => K (packV vs) w
  | _, _, _ => False

theorem call_of {P : Program} {f : FuncId} {fn : Func} {dn : List (Nat × Sc)} {F : Fun} (hf : P.funcs[f]? = some fn) (hF : strF P dn fn = some F) {args : List Value} (hn : args.length ≤ F.n) {w : World} {K : Value → World → Prop}
    (h : F.code.W P (retK P F K) (env0 args) w) : callK P f args w K := by
  unfold strF at hF
  split at hF
  · cases hF
  · rename_i c hc
    split at hF
    · rename_i s r hs hr
      cases hF
      refine calls_of_wp hf hc ?_
      simp only at hn
      have hsz : (args.toArray ++ Array.replicate (fn.ntmps - args.toArray.size) undef).size = fn.ntmps := by simp; omega
      have henv : envOf ⟨args.toArray ++ Array.replicate (fn.ntmps - args.toArray.size) undef, []⟩ = env0 args := by
        funext t
        simp only [envOf, env0, Array.getD_eq_getD_getElem?, List.getD_eq_getElem?_getD]
        rcases Nat.lt_or_ge t args.length with ht | ht
        · simp [Array.getElem?_append, ht]
        · simp only [Array.getElem?_append, List.size_toArray]
          rw [if_neg (by omega), List.getElem?_eq_none ht]
          simp only [Array.getElem?_replicate]
          split <;> simp
      refine wp_mono (S_sound (dfs := []) c s hs (retK P ⟨fn.ntmps, r, s⟩ K) _ w hsz rfl (by rw [henv]; exact h)) ?_
      rintro e a' w' ⟨ha', hd', h'⟩
      cases e <;> first | exact h'.elim | skip
      · obtain ⟨v, hrun, hK⟩ := results_run (K := fun v => K v w') hr h'
        exact ⟨hd', v, hrun, v, rfl, hK⟩
      · obtain ⟨v, hrun, hK⟩ := results_run (K := fun v => K v w') hr h'
        exact ⟨hd', v, hrun, v, rfl, hK⟩
    · cases hF

end Go.Proofs.YtcflokckfjkdpaaDoor.Eng
