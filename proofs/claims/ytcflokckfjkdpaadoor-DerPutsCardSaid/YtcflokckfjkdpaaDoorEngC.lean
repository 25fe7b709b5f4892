/- The engine: the translation of the model's operations, and that the run of each meets what its instruction asks. -/
import Derived.Test.YtcflokckfjkdpaaDoorEngB
set_option linter.unusedVariables false
set_option linter.unusedSimpArgs false
namespace Go.Proofs.YtcflokckfjkdpaaDoor.Eng
open Go Go.RowKit

def zeroOf (P : Program) (t : TypeId) : Option Value := (P.info? t).bind (·.zero)

def strOp (P : Program) (op : Op) : Option I :=
  match op with
  | .move x | .assign x => some (.mv x)
  | .pick c a b => some (.pick c a b)
  | .load t a => (tyk P t).bind fun k => if (P.info? t).isSome then some (.ld k a) else none
  | .store t a x => if (P.info? t).isSome then some (.st (P.cellsOf t) a x) else none
  | .nilCheck x => some (.nilc x)
  | .binOp op xt x y _ => (match tyk P xt with
    | some (.int _) | some .string => some (.bin op x y)
    | some k => (match op with
      | .eql => some (.eq k false x y)
      | .neq => some (.eq k true x y)
      | _ => none)
    | none => none)
  | .unOp op _ x => some (.un op x)
  | .convert s d x => if (P.underlying s).isSome then (match tyk P d with
    | some (.int k) => some (.cv k x)
    | some .string => (match P.underlying s with
      | some .string => some (.cvss x)
      | some (.slice e) => (match P.underlying e with
        | some (.int .u8) => some (.cvbs x)
        | _ => none)
      | _ => none)
    | some .slice => if s == d then (match P.underlying d with
      | some (.slice e) => (match P.underlying e with
        | some (.int .u8) => some (.cvid x)
        | _ => none)
      | _ => none) else none
    | _ => none) else none
  | .makeInterface t x => (match P.underlying t with
    | some (.interface _) | none => none
    | some _ => some (.mki t x))
  | .slice t x lo hi mx => (match P.underlying t with
    | some (.slice e) => if (P.info? e).isSome then some (.slc (P.cellsOf e) x lo hi mx) else none
    | some (.array n e) => if (P.info? e).isSome && mx.isNone then some (.sla n (P.cellsOf e) x lo hi) else none
    | some .string => if mx.isNone then some (.sls x lo hi) else none
    | _ => none)
  | .fieldAddr s x f => (match P.underlying s with
    | some (.struct fs) => (match fs[f]? with
      | some fd => if (P.info? fd.type).isSome && !(P.cellsOf fd.type == 0) then some (.fa fd.offset x) else none
      | none => none)
    | _ => none)
  | .indexAddr t x i => (match P.underlying t with
    | some (.slice e) => if (P.info? e).isSome then some (.ia (P.cellsOf e) x i) else none
    | some (.array n e) => if (P.info? e).isSome then some (.iaA n (P.cellsOf e) x i) else none
    | _ => none)
  | .index t x i => (match P.underlying t with
    | some (.array n e) => (match tyk P e with
      | some (.agg _) => none
      | some _ => if (P.info? e).isSome && (P.cellsOf e == 1) then some (.ixa n x i) else none
      | none => none)
    | some .string => some (.ixs x i)
    | _ => none)
  | .extract t i => some (.ext t i)
  | .range t x => (match P.underlying t with
    | some .string => some (.rgs x)
    | _ => none)
  | .next x b => if b then some (.nxs x) else none
  | .alloc t => (zeroOf P t).map fun z => .alloc t z
  | .box t x => some (.box t x)
  | .build t parts => (match P.underlying t, zeroOf P t with
    | some (.struct fs), some z => if fs.toList.all (fun f => (P.info? f.type).isSome) then some (.bld z.cells (fs.toList.map fun f => (f.offset, P.cellsOf f.type)) parts.toList) else none
    | some (.array n e), some z => if (P.info? e).isSome && !(P.cellsOf e == 0) && parts.toList.all (fun p => decide (p.1 < n)) then some (.bld z.cells ((List.range n).map fun i => (i * P.cellsOf e, P.cellsOf e)) parts.toList) else none
    | _, _ => none)
  | .buildSlice t len parts => (match P.underlying t with
    | some (.slice e) => (match zeroOf P e with
      | some z => if len == 0 && parts.toList.isEmpty then some (.bsl0 e) else if !(len * P.cellsOf e == 0) && decide (len * P.cellsOf e ≤ 2 ^ 24) then some (.bsl e (P.cellsOf e) len z.cells parts.toList) else none
      | none => none)
    | _ => none)
  | .makeSlice t l c => (match P.underlying t with
    | some (.slice e) => (match P.info? e with
      | some i => i.zero.map fun z => .mks e i.size i.bytes z.cells l c
      | none => none)
    | _ => none)
  | .call c => (match c.callee with
    | .value (.func f) => (match P.funcs[f]? with
      | some fn => if fn.name == "runtime.NumGoroutine" || fn.body.isNone then none else some (.call f c.args.toList)
      | none => none)
    | .builtin .len => (match c.args.toList, c.argTypes.toList with
      | [x], [t] => (match P.underlying t with
        | some (.slice _) => some (.len x)
        | some .string => some (.lens x)
        | _ => none)
      | _, _ => none)
    | .builtin .cap => (match c.args.toList, c.argTypes.toList with
      | [x], [t] => (match P.underlying t with
        | some (.slice _) => some (.cap x)
        | _ => none)
      | _, _ => none)
    | .builtin .min => (match c.args.toList with
      | [x, y] => some (.min2 x y)
      | _ => none)
    | .builtin .max => (match c.args.toList with
      | [x, y] => some (.max2 x y)
      | _ => none)
    | .builtin .append => (match c.args.toList, c.argTypes.toList with
      | [x, y], [t, u] => (match P.underlying t, P.underlying u with
        | some (.slice e), some (.slice _) => (match P.info? e with
          | some i => if i.size == 0 then none else i.zero.map fun z => .app e i.size i.bytes z.cells x y
          | none => none)
        | some (.slice e), some (.int _) => (match P.info? e with
          | some i => if i.size == 0 then none else i.zero.map fun z => .appz e i.size i.bytes z.cells x y
          | none => none)
        | some (.slice e), some .string => (match P.info? e with
          | some i => if i.size == 1 then i.zero.map fun z => .apps e i.bytes z.cells x y else none
          | none => none)
        | _, _ => none)
      | _, _ => none)
    | .builtin .copy => (match c.args.toList, c.argTypes.toList with
      | [x, y], [t, u] => (match P.underlying t, P.underlying u with
        | some (.slice e), some (.slice _) => if (P.info? e).isSome then some (.cpy (P.cellsOf e) x y) else none
        | _, _ => none)
      | _, _ => none)
    | _ => none)
  | _ => none

def Same (w w' : World) : Prop := w'.heap = w.heap
theorem Same.cell {w w' : World} (h : Same w w') (a : Addr) : w'.cell? a = w.cell? a := by unfold World.cell?; rw [h]
theorem Same.cellsAt {w w' : World} (h : Same w w') {p : Addr} {cs : List Value} (hc : cellsAt w p cs) : cellsAt w' p cs := fun j v hj => (h.cell _).trans (hc j v hj)

/-- What the run of an operation comes to. -/
def runK (P : Program) (o : Oper) (e : Operand → Value) (w : World) (K : Value → World → Prop) : Prop :=
  match (execOp e o).run P w with
  | .ok (.value v) w' => K v w'
  | .ok .skip w' => K undef w'
  | .ok (.enter f args) w' => callK P f args.toList w' K
  | _ => False

theorem size_of {P : Program} {t : TypeId} (h : (P.info? t).isSome = true) (w : World) : (sizeOf t).run P w = .ok (P.cellsOf t) w := by
  obtain ⟨i, hi⟩ := Option.isSome_iff_exists.1 h
  simp [sizeOf, typeInfo, hi, Program.cellsOf]

theorem zero_run {P : Program} {t : TypeId} {z : Value} (hz : zeroOf P t = some z) (w : World) : (zeroValue t).run P w = .ok z w := by
  unfold zeroOf at hz
  cases hq : P.info? t with
  | none => simp [hq] at hz
  | some i =>
    have hiz : i.zero = some z := by simpa [hq] using hz
    simp [zeroValue, typeInfo, hq, hiz]

theorem boolK_elim {v : Value} {K : Bool → Prop} (h : boolK v K) : ∃ b, v = .bool b ∧ K b := by
  unfold boolK at h; split at h
  · exact ⟨_, rfl, h⟩
  · exact h.elim
theorem intK_elim {v : Value} {K : Int → Prop} (h : intK v K) : ∃ k n, v = .int k n ∧ K n := by
  unfold intK at h; split at h
  · exact ⟨_, _, rfl, h⟩
  · exact h.elim
theorem ptrK_elim {v : Value} {K : Addr → Prop} (h : ptrK v K) : ∃ p, v = .pointer (some p) ∧ K p := by
  unfold ptrK at h; split at h
  · exact ⟨_, rfl, h⟩
  · exact h.elim
theorem strK_elim {v : Value} {K : ByteArray → Prop} (h : strK v K) : ∃ s, v = .string s ∧ K s := by
  unfold strK at h; split at h
  · exact ⟨_, rfl, h⟩
  · exact h.elim
theorem slK_elim {v : Value} {K : Option Addr → Nat → Nat → Prop} (h : slK v K) : ∃ a n c, v = .slice a n c ∧ K a n c := by
  unfold slK at h; split at h
  · exact ⟨_, _, _, rfl, h⟩
  · exact h.elim
theorem tupK_elim {v : Value} {i : Nat} {K : Value → Prop} (h : tupK v i K) : ∃ vs u, v = .tuple vs ∧ vs[i]? = some u ∧ K u := by
  unfold tupK at h; split at h
  · rename_i vs
    split at h
    · rename_i u hu; exact ⟨vs, u, rfl, hu, h⟩
    · exact h.elim
  · exact h.elim
theorem optK_elim {v : Option Value} {K : Option Int → Prop} (h : optK v K) : (v = none ∧ K none) ∨ ∃ k n, v = some (.int k n) ∧ K (some n) := by
  unfold optK at h; split at h
  · exact .inl ⟨rfl, h⟩
  · exact .inr ⟨_, _, rfl, h⟩
  · exact h.elim

theorem not_agg {P : Program} {t : TypeId} {k : TyK} (hk : tyk P t = some k) (hn : ∀ n, k ≠ .agg n) (w : World) : (isAgg t).run P w = .ok false w := by
  unfold tyk at hk
  split at hk <;> first | (cases hk; rename_i hu; simp [isAgg, run_underlying hu]; done) | (cases hk; exact absurd rfl (hn _)) | (injection hk with hk; subst hk; rename_i hu; rename_i d h1 h2 h3 h4 h5 h6 h7; simp only [isAgg, Sem.run_bind, run_underlying hu, Result.andThen_ok]; split <;> simp_all) | (cases hk)

theorem is_agg {P : Program} {t : TypeId} {n : Nat} (hk : tyk P t = some (.agg n)) (w : World) : (isAgg t).run P w = .ok true w ∧ n = P.cellsOf t := by
  unfold tyk at hk
  split at hk <;> first | (cases hk; rename_i hu; simp [isAgg, run_underlying hu]; done) | (cases hk)

theorem ld_run {P : Program} {t : TypeId} {k : TyK} (hk : tyk P t = some k) (hi : (P.info? t).isSome = true) {w : World} {p : Addr} {K : Value → Prop} (h : ldK w k p K) :
    ∃ v, K v ∧ ∀ w', Same w w' → (loadVar t p).run P w' = .ok v w' := by
  have one : ∀ v, (∀ n, k ≠ .agg n) → w.cell? p = some v → ∀ w', Same w w' → (loadVar t p).run P w' = .ok v w' := by
    intro v hn hc w' hw
    have hc' := (hw.cell p).trans hc
    simp [loadVar, not_agg hk hn w', hc']
  cases k with
  | int k => obtain ⟨x, hc, hK⟩ := h; exact ⟨_, hK, one _ (by simp) hc⟩
  | bool => obtain ⟨x, hc, hK⟩ := h; exact ⟨_, hK, one _ (by simp) hc⟩
  | string => obtain ⟨x, hc, hK⟩ := h; exact ⟨_, hK, one _ (by simp) hc⟩
  | pointer => obtain ⟨x, hc, hK⟩ := h; exact ⟨_, hK, one _ (by simp) hc⟩
  | slice => obtain ⟨x, y, z, hc, hK⟩ := h; exact ⟨_, hK, one _ (by simp) hc⟩
  | other => obtain ⟨x, hc, hK⟩ := h; exact ⟨_, hK, one _ (by simp) hc⟩
  | agg n =>
    obtain ⟨cs, hl, hc, hK⟩ := h
    refine ⟨_, hK, fun w' hw => ?_⟩
    obtain ⟨ha, hn⟩ := is_agg hk w'
    have hs := size_of hi w'
    have hr := run_loadCells_list (P := P) w' p cs (hw.cellsAt hc)
    simp [loadVar, ha, hs, ← hn, ← hl, hr]

theorem ibin_run {P : Program} {op : BinOp} {k : IntKind} {a b : Int} {K : Value → Prop} (h : ibin op k a b K) (hs : op ≠ .shl) (hs' : op ≠ .shr) : ∃ v, K v ∧ ∀ t w', (binOp op t (.int k a) (.int k b)).run P w' = .ok v w' := by
  have e1 : (a == b) = decide (a = b) := by by_cases hab : a = b <;> simp [hab]
  have e2 : (a != b) = decide (a ≠ b) := by by_cases hab : a = b <;> simp [hab]
  cases op <;> simp only [ibin] at h <;> first
    | exact h.elim
    | contradiction
    | (refine ⟨_, h, fun t w' => ?_⟩; simp [binOp, Op.intArith, Op.intBits, Op.intCmp, bits]; done)
    | (refine ⟨_, h.2, fun t w' => ?_⟩; simp [binOp, Op.intDiv, h.1]; done)
    | (refine ⟨_, h, fun t w' => ?_⟩; simp [binOp, Op.intCmp, e1]; done)
    | (refine ⟨_, h, fun t w' => ?_⟩; simp only [binOp, Op.intCmp, e2]; simp; done)

theorem bin_run {P : Program} {op : BinOp} {t : TypeId} {cx cy : Operand} {x y : Value} {K : Value → Prop} (h : binK op x y K) :
    ∃ v, K v ∧ ∀ w', (do eqGuard op t cx cy x y; binOp op t x y : Sem Value).run P w' = .ok v w' := by
  unfold binK at h
  split at h
  · rename_i k a _ b
    refine ⟨_, h.2, fun w' => ?_⟩
    simp [eqGuard, binOp, Op.shift, Int.not_lt.2 h.1]
  · rename_i k a _ b
    refine ⟨_, h.2, fun w' => ?_⟩
    simp [eqGuard, binOp, Op.shift, Int.not_lt.2 h.1]
  · rename_i k a k' b n1 n2
    obtain ⟨rfl, h⟩ := h
    have hs : op ≠ .shl := by rintro rfl; simp at n1
    have hs' : op ≠ .shr := by rintro rfl; simp at n2
    obtain ⟨v, hK, hv⟩ := ibin_run (P := P) h hs hs'
    refine ⟨v, hK, fun w' => ?_⟩
    have hg : (eqGuard op t cx cy (.int k a) (.int k b)).run P w' = .ok () w' := by cases op <;> simp [eqGuard]
    simp only [Sem.run_bind, hg, Result.andThen_ok, hv]
  · exact ⟨_, h, fun w' => by simp [eqGuard, binOp, Op.stringOp]⟩
  · exact ⟨_, h, fun w' => by simp [eqGuard, binOp, Op.stringOp]⟩
  · rename_i a b
    refine ⟨_, h.2, fun w' => ?_⟩
    have h1 := h.1
    simp [eqGuard, binOp, Op.stringOp]
    omega
  · exact h.elim

theorem tyk_pointer {P : Program} {t : TypeId} (h : tyk P t = some .pointer) : ∃ e, P.underlying t = some (.pointer e) := by
  unfold tyk at h; split at h <;> first | exact ⟨_, by assumption⟩ | cases h
theorem tyk_slice {P : Program} {t : TypeId} (h : tyk P t = some .slice) : ∃ e, P.underlying t = some (.slice e) := by
  unfold tyk at h; split at h <;> first | exact ⟨_, by assumption⟩ | cases h
theorem tyk_bool {P : Program} {t : TypeId} (h : tyk P t = some .bool) : P.underlying t = some .bool := by
  unfold tyk at h; split at h <;> first | assumption | cases h
theorem tyk_string {P : Program} {t : TypeId} (h : tyk P t = some .string) : P.underlying t = some .string := by
  unfold tyk at h; split at h <;> first | assumption | cases h
theorem tyk_int {P : Program} {t : TypeId} {k : IntKind} (h : tyk P t = some (.int k)) : P.underlying t = some (.int k) := by
  unfold tyk at h; split at h <;> first | (injection h with h; injection h with h; subst h; assumption) | cases h

theorem eqs_run {P : Program} {t : TypeId} {cx cy : Operand} {x y : Value} {r : Bool} (hg : ∀ op w', (eqGuard op t cx cy x y).run P w' = .ok () w')
    (hb : binOp .eql t x y = do pure (.bool (← Op.equal t x y))) (hb' : binOp .neq t x y = do pure (.bool (!(← Op.equal t x y)))) (h : ∀ w', (Op.equalIn (9999 + 1) t x y).run P w' = .ok r w') (neg : Bool) (w' : World) :
    (do eqGuard (if neg then .neq else .eql) t cx cy x y; binOp (if neg then .neq else .eql) t x y : Sem Value).run P w' = .ok (.bool (r ^^ neg)) w' := by
  have h' : (Op.equal t x y).run P w' = .ok r w' := h w'
  cases neg
  · have e : (if false = true then BinOp.neq else BinOp.eql) = .eql := rfl
    rw [e, hb]
    simp only [Sem.run_bind, hg, Result.andThen_ok, h', Bool.xor_false, Sem.run_pure]
  · have e : (if true = true then BinOp.neq else BinOp.eql) = .neq := rfl
    rw [e, hb']
    simp only [Sem.run_bind, hg, Result.andThen_ok, h', Bool.xor_true, Sem.run_pure]

theorem eqd_bool {P : Program} {t : TypeId} (hu : P.underlying t = some .bool) (a b : Bool) (d : Nat) (w : World) : (Op.equalIn (d + 1) t (.bool a) (.bool b)).run P w = .ok (a == b) w := by
  simp only [Op.equalIn, Sem.run_bind, run_underlying hu, Result.andThen_ok, Sem.run_pure]
theorem eqd_ptr0 {P : Program} {t e : TypeId} (hu : P.underlying t = some (.pointer e)) (b : Option Addr) (d : Nat) (w : World) : (Op.equalIn (d + 1) t (.pointer none) (.pointer b)).run P w = .ok b.isNone w := by
  simp only [Op.equalIn, Sem.run_bind, run_underlying hu, Result.andThen_ok, Sem.run_pure]
theorem eqd_ptr1 {P : Program} {t e : TypeId} (hu : P.underlying t = some (.pointer e)) (a : Addr) (d : Nat) (w : World) : (Op.equalIn (d + 1) t (.pointer (some a)) (.pointer none)).run P w = .ok false w := by
  simp only [Op.equalIn, Sem.run_bind, run_underlying hu, Result.andThen_ok, Sem.run_pure]
theorem eqd_sl0 {P : Program} {t e : TypeId} (hu : P.underlying t = some (.slice e)) (n c m d' : Nat) (b : Option Addr) (d : Nat) (w : World) : (Op.equalIn (d + 1) t (.slice none n c) (.slice b m d')).run P w = .ok b.isNone w := by
  simp only [Op.equalIn, Sem.run_bind, run_underlying hu, Result.andThen_ok, Sem.run_pure]
theorem eqd_sl1 {P : Program} {t e : TypeId} (hu : P.underlying t = some (.slice e)) (n c m d' : Nat) (a : Addr) (d : Nat) (w : World) : (Op.equalIn (d + 1) t (.slice (some a) n c) (.slice none m d')).run P w = .ok false w := by
  simp only [Op.equalIn, Sem.run_bind, run_underlying hu, Result.andThen_ok, Sem.run_pure]

theorem eq_run {P : Program} {neg : Bool} {t : TypeId} {k : TyK} (hk : tyk P t = some k) {cx cy : Operand} {x y : Value} {K : Value → Prop} (h : eqK k neg x y K) :
    ∃ v, K v ∧ ∀ w', (do eqGuard (if neg then .neq else .eql) t cx cy x y; binOp (if neg then .neq else .eql) t x y : Sem Value).run P w' = .ok v w' := by
  unfold eqK at h
  split at h
  · have hu := tyk_bool hk
    exact ⟨_, h, eqs_run (fun op w' => by cases op <;> simp [eqGuard]) rfl rfl (eqd_bool hu _ _ 9999) neg⟩
  · obtain ⟨e, hu⟩ := tyk_pointer hk
    exact ⟨_, h, eqs_run (fun op w' => by cases op <;> simp [eqGuard]) rfl rfl (eqd_ptr0 hu _ 9999) neg⟩
  · obtain ⟨e, hu⟩ := tyk_pointer hk
    rename_i p
    have := eqs_run (P := P) (t := t) (cx := cx) (cy := cy) (x := .pointer (some p)) (y := .pointer none) (fun op w' => by cases op <;> simp [eqGuard]) rfl rfl (eqd_ptr1 hu p 9999) neg
    exact ⟨_, h, by simpa using this⟩
  · obtain ⟨e, hu⟩ := tyk_slice hk
    exact ⟨_, h, eqs_run (fun op w' => by cases op <;> simp [eqGuard]) rfl rfl (eqd_sl0 hu _ _ _ _ _ 9999) neg⟩
  · obtain ⟨e, hu⟩ := tyk_slice hk
    rename_i p n c m d
    have := eqs_run (P := P) (t := t) (cx := cx) (cy := cy) (x := .slice (some p) n c) (y := .slice none m d) (fun op w' => by cases op <;> simp [eqGuard]) rfl rfl (eqd_sl1 hu n c m d p 9999) neg
    exact ⟨_, h, by simpa using this⟩
  · exact h.elim

theorem un_run {P : Program} {op : UnOp} {x : Value} {K : Value → Prop} (h : unK op x K) : ∃ v, K v ∧ ∀ w', (Op.unary op x).run P w' = .ok v w' := by
  unfold unK at h
  split at h
  · exact ⟨_, h, fun w' => by simp [Op.unary]⟩
  · exact ⟨_, h, fun w' => by simp [Op.unary, Op.intArith]⟩
  · exact ⟨_, h, fun w' => by simp [Op.unary, Op.intBits, bits]⟩
  · exact h.elim

theorem bounds_run {P : Program} {isSlice : Bool} {n c : Nat} {lo hi mx : Option Value} {lo' hi' mx' : Option Int} (w : World)
    (hl : (lo = none ∧ lo' = none) ∨ ∃ k m, lo = some (.int k m) ∧ lo' = some m) (hh : (hi = none ∧ hi' = none) ∨ ∃ k m, hi = some (.int k m) ∧ hi' = some m)
    (hm : (mx = none ∧ mx' = none) ∨ ∃ k m, mx = some (.int k m) ∧ mx' = some m)
    (h0 : 0 ≤ lo'.getD 0) (h1 : lo'.getD 0 ≤ hi'.getD n) (h2 : hi'.getD n ≤ mx'.getD c) (h3 : mx'.getD c ≤ c) (h4 : mx'.isSome → hi'.isSome) :
    (Instr.sliceBounds isSlice n c lo hi mx).run P w = .ok ((lo'.getD 0).toNat, (hi'.getD n).toNat, (mx'.getD c).toNat) w := by
  rcases hl with ⟨rfl, rfl⟩ | ⟨kl, l, rfl, rfl⟩ <;> rcases hh with ⟨rfl, rfl⟩ | ⟨kh, h, rfl, rfl⟩ <;> rcases hm with ⟨rfl, rfl⟩ | ⟨km, m, rfl, rfl⟩ <;> simp only [Option.getD_some, Option.getD_none, Option.isSome_some, Option.isSome_none, Bool.false_eq_true, imp_false, not_true, false_implies] at h0 h1 h2 h3 h4 <;> (first | exact h4.elim | skip) <;>
    (try obtain ⟨l, rfl⟩ := Int.eq_ofNat_of_zero_le h0) <;> (try obtain ⟨h, rfl⟩ := Int.eq_ofNat_of_zero_le (show 0 ≤ h by omega)) <;> (try obtain ⟨m, rfl⟩ := Int.eq_ofNat_of_zero_le (show 0 ≤ m by omega)) <;>
    simp only [Instr.sliceBounds, Instr.sliceBound, asIntOf, Sem.run_bind, Sem.run_pure, Result.andThen_ok, Int.toNat_natCast, Option.getD_some, Option.getD_none, Int.toNat_zero, Option.isSome_some, Option.isSome_none] <;>
    (repeat (rw [if_pos (by omega)]; simp only [Sem.run_pure, Result.andThen_ok, Int.toNat_natCast]))

theorem build_struct {P : Program} {t : TypeId} {fs : Array Field} {z : Value} (hfs : P.underlying t = some (.struct fs)) (hz : zeroOf P t = some z) (hall : fs.toList.all (fun f => (P.info? f.type).isSome) = true)
    {parts : Array (Nat × Operand)} {ρ : Env} {cs : Array Value} (hcs : fillL (fs.toList.map fun f => (f.offset, P.cellsOf f.type)) z.cells (parts.toList.map fun p => (p.1, ev ρ p.2)) = some cs)
    {d : Option Tmp} {ty : TypeId} {pos : String} {af : Array Edge} {gd : Option (Nat × Bool)} (w : World) : (execOp (ev ρ) ⟨d, .build t parts, ty, pos, af, gd⟩).run P w = .ok (.value (.agg cs)) w := by
  have hzr := zero_run hz w
  have hm : ∀ (l : List Field), (∀ f ∈ l, (P.info? f.type).isSome = true) → ∀ acc, (List.foldlM (fun (b : Array (Nat × Nat)) (f : Field) => do pure (b.push (f.offset, ← sizeOf f.type))) acc l : Sem (Array (Nat × Nat))).run P w = .ok (acc ++ (l.map fun f => (f.offset, P.cellsOf f.type)).toArray) w := by
    intro l
    induction l with
    | nil => intro _ acc; simp
    | cons f l ih =>
      intro hl acc
      have h1 := size_of (hl f (by simp)) w
      simp only [List.foldlM_cons, Sem.run_bind, h1, Result.andThen_ok, Sem.run_pure]
      rw [ih (fun g hg => hl g (by simp [hg]))]
      simp
  have hmap : (fs.mapM (fun f => do pure (f.offset, ← sizeOf f.type)) : Sem (Array (Nat × Nat))).run P w = .ok (fs.toList.map fun f => (f.offset, P.cellsOf f.type)).toArray w := by
    have := hm fs.toList (fun f hf => List.all_eq_true.1 hall f hf) #[]
    rw [Array.mapM_eq_foldlM, ← Array.foldlM_toList]
    simpa using this
  have hfill : Instr.fill (fun i => ((fs.toList.map fun f => (f.offset, P.cellsOf f.type)).toArray)[i]?) z.cells ((parts.map fun (x : Nat × Operand) => (x.1, ev ρ x.2)).toList) = some cs := by
    simpa [fillL] using hcs
  show (Instr.build t (parts.map fun (x : Nat × Operand) => (x.1, ev ρ x.2)) >>= fun v => pure (Next.value v)).run P w = _
  simp only [Instr.build, Sem.run_bind, hzr, Result.andThen_ok, Sem.run_pure, run_underlying hfs, hmap, hfill]

theorem fill_congr {f g : Nat → Option (Nat × Nat)} : ∀ (parts : List (Nat × Value)) (z : Array Value), (∀ p ∈ parts, f p.1 = g p.1) → Instr.fill f z parts = Instr.fill g z parts
  | [], _, _ => rfl
  | (i, v) :: rest, z, h => by
    simp only [Instr.fill]
    rw [h (i, v) (by simp)]
    cases g i with
    | none => rfl
    | some q =>
      obtain ⟨off, size⟩ := q
      simp only
      split
      · rfl
      · exact fill_congr rest _ (fun p hp => h p (by simp [hp]))

theorem build_array {P : Program} {t e : TypeId} {n : Nat} {z : Value} (hfs : P.underlying t = some (.array n e)) (hz : zeroOf P t = some z) (hinfo : (P.info? e).isSome = true)
    {parts : Array (Nat × Operand)} (hp : ∀ p ∈ parts.toList, p.1 < n) {ρ : Env} {cs : Array Value} (hcs : fillL ((List.range n).map fun i => (i * P.cellsOf e, P.cellsOf e)) z.cells (parts.toList.map fun p => (p.1, ev ρ p.2)) = some cs)
    {d : Option Tmp} {ty : TypeId} {pos : String} {af : Array Edge} {gd : Option (Nat × Bool)} (w : World) : (execOp (ev ρ) ⟨d, .build t parts, ty, pos, af, gd⟩).run P w = .ok (.value (.agg cs)) w := by
  have hzr := zero_run hz w
  have hs := size_of hinfo w
  have hfill : Instr.fill (fun i => some (i * P.cellsOf e, P.cellsOf e)) z.cells ((parts.map fun (x : Nat × Operand) => (x.1, ev ρ x.2)).toList) = some cs := by
    rw [← hcs]
    unfold fillL
    rw [show (parts.map fun (x : Nat × Operand) => (x.1, ev ρ x.2)).toList = parts.toList.map fun p => (p.1, ev ρ p.2) by simp]
    refine fill_congr _ _ (fun p hp' => ?_)
    simp only [List.mem_map] at hp'
    obtain ⟨q, hq, rfl⟩ := hp'
    have := hp q hq
    simp [this]
  show (Instr.build t (parts.map fun (x : Nat × Operand) => (x.1, ev ρ x.2)) >>= fun v => pure (Next.value v)).run P w = _
  simp only [Instr.build, Sem.run_bind, hzr, Result.andThen_ok, Sem.run_pure, run_underlying hfs, hs, hfill]

theorem bin_exec {P : Program} {op : BinOp} {t yt : TypeId} {x y : Operand} {ρ : Env} {d : Option Tmp} {ty : TypeId} {pos : String} {af : Array Edge} {gd : Option (Nat × Bool)} {w' : World} {v : Value}
    (h : (do eqGuard op t x y (ev ρ x) (ev ρ y); binOp op t (ev ρ x) (ev ρ y) : Sem Value).run P w' = .ok v w') : (execOp (ev ρ) ⟨d, .binOp op t x y yt, ty, pos, af, gd⟩).run P w' = .ok (.value v) w' := by
  show ((do eqGuard op t x y (ev ρ x) (ev ρ y); binOp op t (ev ρ x) (ev ρ y) : Sem Value) >>= fun v => pure (Next.value v)).run P w' = _
  rw [Sem.run_bind, h]
  rfl

def ldB : I → Bool
  | .ld .. | .cvbs .. => true
  | _ => false
theorem cvbs_run {P : Program} {s d e : TypeId} (hs : P.underlying s = some (.slice e)) (he : P.underlying e = some (.int .u8)) (hd : P.underlying d = some .string) {A : Option Addr} {n c : Nat} {xs : List Int} (hl : xs.length = n) {w : World}
    (h : 0 < n → ∃ p, A = some p ∧ cellsAt w p (xs.map (Value.int .u8))) : (convert s d (.slice A n c)).run P w = .ok (.string (strOfNums xs)) w := by
  cases A with
  | none =>
    have : n = 0 := by
      rcases Nat.eq_zero_or_pos n with h0 | h0
      · exact h0
      · obtain ⟨p, hp, _⟩ := h h0; cases hp
    subst this
    have : xs = [] := List.eq_nil_of_length_eq_zero hl
    subst this
    exact run_convert_bytes_nil w s e hs he 0 c d hd
  | some p =>
    rcases Nat.eq_zero_or_pos n with h0 | h0
    · subst h0
      have : xs = [] := List.eq_nil_of_length_eq_zero hl
      subst this
      simp [convert, run_underlying hs, run_underlying hd, run_underlying he, Conv.bytesToString, loadCells, loadCellsFrom, strOfNums]
      rfl
    · obtain ⟨p', hp, hc⟩ := h h0
      cases hp
      have h1 : w.cell? p = some (.int .u8 (xs.getD 0 0)) := by
        have := hc 0 (.int .u8 (xs.getD 0 0)) (by cases xs with | nil => simp at hl; omega | cons x l => simp)
        simpa [Addr.add] using this
      obtain ⟨b, o, sp⟩ := p
      have hsp : sp = none := by
        cases sp with
        | none => rfl
        | some q => simp only [World.cell?] at h1; split at h1 <;> simp at h1
      subst hsp
      refine run_convert_bytes_arg w s e hs he b o n c xs hl (fun i hi => ?_) d hd
      have := hc i (.int .u8 (xs.getD i 0)) (by have : i < xs.length := by omega
                                                simp [this])
      rwa [Addr.add_lit] at this

/-- Read-only instructions: one value, in every world with this heap. -/
theorem r_sound {P : Program} {o : Oper} {i : I} (hi : strOp P o.op = some i) {ρ : Env} {w : World} {K : Value → Prop} (h : rW i ρ w K) :
    ∃ v, K v ∧ ∀ w', (ldB i = true → Same w w') → (execOp (ev ρ) o).run P w' = .ok (.value v) w' := by
  obtain ⟨dst, op, ty, pos, af, gd⟩ := o
  simp only at hi
  cases op <;> simp only [strOp] at hi
  case move x => cases hi; exact ⟨_, h, fun w' _ => rfl⟩
  case assign x => cases hi; exact ⟨_, h, fun w' _ => rfl⟩
  case pick c a b =>
    cases hi
    obtain ⟨t, ht, hK⟩ := boolK_elim h
    refine ⟨_, hK, fun w' _ => ?_⟩
    simp [execOp, ht, asBool]
  case load t a =>
    cases hk : tyk P t with
    | none => simp [hk] at hi
    | some k =>
      simp only [hk, Option.bind_some] at hi
      split at hi
      · rename_i hinfo
        cases hi
        obtain ⟨p, hp, h⟩ := ptrK_elim h
        obtain ⟨v, hK, hr⟩ := ld_run hk hinfo h
        refine ⟨v, hK, fun w' hw => ?_⟩
        simp [execOp, Instr.loadAt, Instr.sureAddr, hp, hr w' (hw rfl)]
      · cases hi
  case store t a x => split at hi <;> cases hi; exact h.elim
  case range t x => split at hi <;> cases hi; exact h.elim
  case next x b => split at hi <;> cases hi; exact h.elim
  case nilCheck x =>
    cases hi
    obtain ⟨p, hp, hK⟩ := ptrK_elim h
    exact ⟨_, hK, fun w' _ => by simp [execOp, hp]⟩
  case binOp op xt x y yt =>
    split at hi
    · cases hi
      obtain ⟨v, hK, hr⟩ := bin_run (P := P) (t := xt) (cx := x) (cy := y) h
      exact ⟨v, hK, fun w' _ => bin_exec (hr w')⟩
    · cases hi
      obtain ⟨v, hK, hr⟩ := bin_run (P := P) (t := xt) (cx := x) (cy := y) h
      exact ⟨v, hK, fun w' _ => bin_exec (hr w')⟩
    · rename_i k _ _ hk
      split at hi
      · cases hi
        obtain ⟨v, hK, hr⟩ := eq_run (P := P) (neg := false) hk (cx := x) (cy := y) h
        exact ⟨v, hK, fun w' _ => bin_exec (hr w')⟩
      · cases hi
        obtain ⟨v, hK, hr⟩ := eq_run (P := P) (neg := true) hk (cx := x) (cy := y) h
        exact ⟨v, hK, fun w' _ => bin_exec (hr w')⟩
      · cases hi
    · cases hi
  case unOp op t x =>
    cases hi
    obtain ⟨v, hK, hr⟩ := un_run (P := P) h
    exact ⟨v, hK, fun w' _ => by simp [execOp, hr w']⟩
  case convert s d x =>
    split at hi
    · rename_i hs
      split at hi
      · rename_i k hk
        cases hi
        obtain ⟨k', n, hn, hK⟩ := intK_elim h
        have hu := tyk_int hk
        obtain ⟨ds, hds⟩ := Option.isSome_iff_exists.1 hs
        refine ⟨_, hK, fun w' _ => ?_⟩
        simp [execOp, hn, convert, run_underlying hu, run_underlying hds, Conv.intToInt]
      · rename_i hk
        have hu := tyk_string hk
        split at hi
        · rename_i hs'
          cases hi
          obtain ⟨s', hs2, hK⟩ := strK_elim h
          refine ⟨_, hK, fun w' _ => ?_⟩
          simp [execOp, hs2, convert, run_underlying hu, run_underlying hs']
        · rename_i e he
          split at hi
          · rename_i he8
            cases hi
            obtain ⟨A, n, c, hv, xs, hl, hc, hK⟩ := slK_elim h
            refine ⟨_, hK, fun w' hw => ?_⟩
            have := cvbs_run (P := P) (c := c) he he8 hu hl (w := w') (fun h0 => let ⟨p, hp, hcc⟩ := hc h0; ⟨p, hp, (hw rfl).cellsAt hcc⟩)
            simp [execOp, hv, this]
          · cases hi
        · cases hi
      · split at hi
        · split at hi
          · split at hi
            · cases hi; exact h.elim
            · cases hi
          · cases hi
        · cases hi
      · cases hi
    · cases hi
  case makeInterface t x =>
    split at hi
    · cases hi
    · cases hi
    · rename_i d hd hnone
      cases hi
      refine ⟨_, h, fun w' _ => ?_⟩
      simp only [execOp, Instr.makeInterface, Sem.run_bind, run_underlying hnone, Result.andThen_ok, Sem.run_pure]
  case slice t x lo hi' mx =>
    split at hi
    · rename_i e he
      split at hi
      · rename_i hinfo
        cases hi
        obtain ⟨A, n, c, hx, h⟩ := slK_elim h
        refine ?_
        have hs := fun w' => size_of (P := P) hinfo w'
        rcases optK_elim h with ⟨e1, h⟩ | ⟨k1, l1, e1, h⟩ <;> rcases optK_elim h with ⟨e2, h⟩ | ⟨k2, l2, e2, h⟩ <;> rcases optK_elim h with ⟨e3, h⟩ | ⟨k3, l3, e3, h⟩ <;> obtain ⟨h0, h1, h2, h3, h4, hK⟩ := h <;> refine ⟨_, hK, fun w' _ => ?_⟩ <;>
          (have hb := bounds_run (P := P) (isSlice := true) (n := n) (c := c) (lo := lo.map (ev ρ)) (hi := hi'.map (ev ρ)) (mx := mx.map (ev ρ)) w' (by first | exact .inl ⟨e1, rfl⟩ | exact .inr ⟨_, _, e1, rfl⟩) (by first | exact .inl ⟨e2, rfl⟩ | exact .inr ⟨_, _, e2, rfl⟩) (by first | exact .inl ⟨e3, rfl⟩ | exact .inr ⟨_, _, e3, rfl⟩) h0 h1 h2 h3 h4
           simp only [execOp, hx, Sem.run_bind, Instr.sliceAt, run_underlying he, Result.andThen_ok, Instr.slice, hb, hs w', Sem.run_pure])
      · cases hi
    · rename_i n e he
      split at hi
      · rename_i hinfo
        simp only [Bool.and_eq_true, Option.isNone_iff_eq_none] at hinfo
        obtain ⟨hinfo, rfl⟩ := hinfo
        cases hi
        obtain ⟨p, hx, h⟩ := ptrK_elim h
        have hs := fun w' => size_of (P := P) hinfo w'
        rcases optK_elim h with ⟨e1, h⟩ | ⟨k1, l1, e1, h⟩ <;> rcases optK_elim h with ⟨e2, h⟩ | ⟨k2, l2, e2, h⟩ <;> obtain ⟨h0, h1, h2, hK⟩ := h <;> refine ⟨_, hK, fun w' _ => ?_⟩ <;>
          (have hb := bounds_run (P := P) (isSlice := false) (n := n) (c := n) (lo := lo.map (ev ρ)) (hi := hi'.map (ev ρ)) (mx := none) (mx' := none) w' (by first | exact .inl ⟨e1, rfl⟩ | exact .inr ⟨_, _, e1, rfl⟩) (by first | exact .inl ⟨e2, rfl⟩ | exact .inr ⟨_, _, e2, rfl⟩) (.inl ⟨rfl, rfl⟩) h0 h1 h2 (by simp) (by simp)
           simp only [Option.getD_none, Int.toNat_natCast] at hb
           simp only [execOp, hx, Sem.run_bind, Instr.sliceAt, run_underlying he, Result.andThen_ok, Instr.sureAddr, Option.map_none, hb, hs w', Sem.run_pure, Option.getD_none, Int.toNat_natCast])
      · cases hi
    · rename_i he
      split at hi
      · rename_i hmx
        simp only [Option.isNone_iff_eq_none] at hmx
        subst hmx
        cases hi
        obtain ⟨s, hx, h⟩ := strK_elim h
        rcases optK_elim h with ⟨e1, h⟩ | ⟨k1, l1, e1, h⟩ <;> rcases optK_elim h with ⟨e2, h⟩ | ⟨k2, l2, e2, h⟩ <;> obtain ⟨h0, h1, h2, hK⟩ := h <;> refine ⟨_, hK, fun w' _ => ?_⟩ <;>
          (have hb := bounds_run (P := P) (isSlice := false) (n := s.size) (c := s.size) (lo := lo.map (ev ρ)) (hi := hi'.map (ev ρ)) (mx := none) (mx' := none) w' (by first | exact .inl ⟨e1, rfl⟩ | exact .inr ⟨_, _, e1, rfl⟩) (by first | exact .inl ⟨e2, rfl⟩ | exact .inr ⟨_, _, e2, rfl⟩) (.inl ⟨rfl, rfl⟩) h0 h1 h2 (by simp) (by simp)
           simp only [Option.getD_none, Int.toNat_natCast] at hb
           simp only [execOp, hx, Sem.run_bind, Instr.sliceAt, Instr.slice, run_underlying he, Result.andThen_ok, Option.map_none, Option.isSome_none, Bool.false_eq_true, if_false, hb, Sem.run_pure, Option.getD_none, Int.toNat_natCast])
      · cases hi
    · cases hi
  case fieldAddr s x f =>
    split at hi
    · rename_i fs hfs
      split at hi
      · rename_i fd hfd
        split at hi
        · rename_i hinfo
          simp only [Bool.and_eq_true, Bool.not_eq_true', beq_eq_false_iff_ne, ne_eq] at hinfo
          cases hi
          obtain ⟨p, hp, hK⟩ := ptrK_elim h
          refine ⟨_, hK, fun w' _ => ?_⟩
          have hs := size_of hinfo.1 w'
          simp [execOp, Instr.fieldAt, run_underlying hfs, hfd, hp, Instr.sureAddr, fieldPlace, hs, hinfo.2]
        · cases hi
      · cases hi
    · cases hi
  case indexAddr t x i =>
    split at hi
    · rename_i e he
      split at hi
      · rename_i hinfo
        cases hi
        obtain ⟨A, n, c, hx, h⟩ := slK_elim h
        obtain ⟨k, i', hi', p, rfl, h0, h1, hK⟩ := intK_elim h
        refine ⟨_, hK, fun w' _ => ?_⟩
        have hs := size_of hinfo w'
        simp [execOp, Instr.indexAt, run_underlying he, hx, hi', asIntOf, h0, h1, hs]
      · cases hi
    · rename_i n e he
      split at hi
      · rename_i hinfo
        cases hi
        obtain ⟨p, hx, h⟩ := ptrK_elim h
        obtain ⟨k, i', hi', h0, h1, hK⟩ := intK_elim h
        refine ⟨_, hK, fun w' _ => ?_⟩
        have hs := size_of hinfo w'
        simp [execOp, Instr.indexAt, run_underlying he, hx, hi', asIntOf, h0, h1, hs, Instr.sureAddr]
      · cases hi
    · cases hi
  case index t x i =>
    split at hi
    · rename_i n e he
      split at hi
      · cases hi
      · rename_i k hk hnag
        split at hi
        · rename_i hinfo
          simp only [Bool.and_eq_true, beq_iff_eq] at hinfo
          cases hi
          simp only [rW] at h
          split at h
          · rename_i cs hx
            obtain ⟨k', i', hi', h0, h1, v, hv, hK⟩ := intK_elim h
            refine ⟨v, hK, fun w' _ => ?_⟩
            have hs := size_of hinfo.1 w'
            have hna := not_agg hnag (fun n hn => by subst hn; exact hk n rfl) w'
            simp [execOp, Instr.index, run_underlying he, hx, hi', asIntOf, h0, h1, hs, part, hinfo.2, hna, hv]
          · exact h.elim
        · cases hi
      · cases hi
    · rename_i he
      cases hi
      obtain ⟨s, hx, h⟩ := strK_elim h
      obtain ⟨k', i', hi', hlt, h0, hK⟩ := intK_elim h
      refine ⟨_, hK, fun w' _ => ?_⟩
      simp [execOp, Instr.index, run_underlying he, hx, hi', asIntOf, h0, hlt]
    · cases hi
  case extract t i =>
    cases hi
    obtain ⟨vs, u, hvs, hu, hK⟩ := tupK_elim h
    exact ⟨_, hK, fun w' _ => by simp [execOp, hvs, Instr.extract, hu]⟩
  case alloc t => simp only [Option.map_eq_some_iff] at hi; obtain ⟨z, _, rfl⟩ := hi; exact h.elim
  case box t x => cases hi; exact h.elim
  case buildSlice t len parts =>
    split at hi
    · split at hi
      · split at hi
        · cases hi; exact h.elim
        · split at hi
          · cases hi; exact h.elim
          · cases hi
      · cases hi
    · cases hi
  case makeSlice t l c =>
    split at hi
    · split at hi
      · simp only [Option.map_eq_some_iff] at hi; obtain ⟨z, _, rfl⟩ := hi; exact h.elim
      · cases hi
    · cases hi
  case build t parts =>
    split at hi
    · rename_i fs z hfs hz
      split at hi
      · rename_i hall
        cases hi
        obtain ⟨cs, hcs, hK⟩ := h
        refine ⟨_, hK, fun w' _ => ?_⟩
        exact build_struct hfs hz hall hcs w'
      · cases hi
    · rename_i n e z hfs hz
      split at hi
      · rename_i hc
        simp only [Bool.and_eq_true, Bool.not_eq_true', beq_eq_false_iff_ne, ne_eq, List.all_eq_true, decide_eq_true_eq] at hc
        cases hi
        obtain ⟨cs, hcs, hK⟩ := h
        refine ⟨_, hK, fun w' _ => ?_⟩
        exact build_array hfs hz hc.1.1 hc.2 hcs w'
      · cases hi
    · cases hi
  case call c =>
    obtain ⟨callee, args, ats⟩ := c
    simp only at hi
    cases callee <;> try simp only at hi
    case invoke => cases hi
    case value f =>
      cases f <;> try simp only at hi
      case func f =>
        split at hi
        · split at hi
          · cases hi
          · cases hi; exact h.elim
        · cases hi
      all_goals cases hi
    case builtin b =>
      cases b <;> try simp only at hi
      case len =>
        split at hi
        · rename_i x t hx ht
          split at hi
          · rename_i e hu
            cases hi
            obtain ⟨A, n, c, hv, hK⟩ := slK_elim h
            refine ⟨_, hK, fun w' _ => ?_⟩
            have hx' : args = #[x] := by rw [← hx]
            have ht' : ats = #[t] := by rw [← ht]
            subst hx'; subst ht'
            simp [execOp, resolve, invoke, builtin, Builtin.len_, run_underlying hu, hv, goInt]
          · rename_i hu
            cases hi
            obtain ⟨s, hv, hK⟩ := strK_elim h
            refine ⟨_, hK, fun w' _ => ?_⟩
            have hx' : args = #[x] := by rw [← hx]
            have ht' : ats = #[t] := by rw [← ht]
            subst hx'; subst ht'
            simp [execOp, resolve, invoke, builtin, Builtin.len_, run_underlying hu, hv, goInt]
          · cases hi
        · cases hi
      case cap =>
        split at hi
        · rename_i x t hx ht
          split at hi
          · rename_i e hu
            cases hi
            obtain ⟨A, n, c, hv, hK⟩ := slK_elim h
            refine ⟨_, hK, fun w' _ => ?_⟩
            have hx' : args = #[x] := by rw [← hx]
            have ht' : ats = #[t] := by rw [← ht]
            subst hx'; subst ht'
            simp [execOp, resolve, invoke, builtin, Builtin.cap_, run_underlying hu, hv, goInt]
          · cases hi
        · cases hi
      case min =>
        split at hi
        · rename_i x y hx
          cases hi
          simp only [rW] at h
          split at h
          · rename_i k a k' b hv1 hv2
            refine ⟨_, h, fun w' _ => ?_⟩
            have hx' : args = #[x, y] := by rw [← hx]
            subst hx'
            simp [execOp, resolve, invoke, builtin, Builtin.min_, Builtin.min2, hv1, hv2, List.foldlM]
          · exact h.elim
        · cases hi
      case max =>
        split at hi
        · rename_i x y hx
          cases hi
          simp only [rW] at h
          split at h
          · rename_i k a k' b hv1 hv2
            refine ⟨_, h, fun w' _ => ?_⟩
            have hx' : args = #[x, y] := by rw [← hx]
            subst hx'
            simp [execOp, resolve, invoke, builtin, Builtin.max_, Builtin.max2, hv1, hv2, List.foldlM]
          · exact h.elim
        · cases hi
      case append =>
        split at hi
        · split at hi
          · split at hi
            · split at hi
              · cases hi
              · simp only [Option.map_eq_some_iff] at hi; obtain ⟨z, _, rfl⟩ := hi; exact h.elim
            · cases hi
          · split at hi
            · split at hi
              · cases hi
              · simp only [Option.map_eq_some_iff] at hi; obtain ⟨z, _, rfl⟩ := hi; exact h.elim
            · cases hi
          · split at hi
            · split at hi
              · simp only [Option.map_eq_some_iff] at hi; obtain ⟨z, _, rfl⟩ := hi; exact h.elim
              · cases hi
            · cases hi
          · cases hi
        · cases hi
      case copy =>
        split at hi
        · split at hi
          · split at hi
            · cases hi; exact h.elim
            · cases hi
          · cases hi
        · cases hi
      all_goals cases hi
  all_goals cases hi

end Go.Proofs.YtcflokckfjkdpaaDoor.Eng
