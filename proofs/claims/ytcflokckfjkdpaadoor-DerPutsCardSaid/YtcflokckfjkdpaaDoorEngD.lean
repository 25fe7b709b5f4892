/- The engine: instructions that write or call; the quiet ones. -/
import Derived.Test.YtcflokckfjkdpaaDoorEngC
set_option linter.unusedVariables false
set_option linter.unusedSimpArgs false
namespace Go.Proofs.YtcflokckfjkdpaaDoor.Eng
open Go Go.RowKit

theorem runK_value {P : Program} {o : Oper} {e : Operand → Value} {w w' : World} {v : Value} {K : Value → World → Prop} (h : (execOp e o).run P w = .ok (.value v) w') (hK : K v w') : runK P o e w K := by
  unfold runK; rw [h]; exact hK
theorem runK_skip {P : Program} {o : Oper} {e : Operand → Value} {w w' : World} {K : Value → World → Prop} (h : (execOp e o).run P w = .ok .skip w') (hK : K undef w') : runK P o e w K := by
  unfold runK; rw [h]; exact hK
theorem cells_one {v : Value} (h : v.oneCell' = true) : v.cells = #[v] := by
  cases v <;> first | rfl | (simp [Value.oneCell'] at h)

theorem st_run {P : Program} {t : TypeId} (hinfo : (P.info? t).isSome = true) {p : Addr} {v : Value} {w : World} {K : World → Prop} (h : stK (P.cellsOf t) p v w K) :
    ∃ w', (storeVar t p v).run P w = .ok () w' ∧ K w' := by
  obtain ⟨hsz, h⟩ := h
  have hs := size_of hinfo w
  rcases h with ⟨h1, hc, hf, hK⟩ | ⟨cs, rfl, hspot, h1, hc, hf, hK⟩
  · refine ⟨_, ?_, hK⟩
    obtain ⟨u, hu⟩ := Option.isSome_iff_exists.1 hc
    have hst := run_store P w p v .plain h1
    rw [hu, hf] at hst
    simp only [Bool.false_eq_true, if_false] at hst
    have hcl := cells_one h1
    simp only [storeVar, Sem.run_bind, hs, Result.andThen_ok]
    rw [if_neg (by simp [hsz])]
    rw [hcl]
    have h0 : p.add 0 = p := by simp [Addr.add]
    simp only [storeCells, Sem.run_bind, h0, Sem.run_pure]
    exact (congrArg (fun r => Result.andThen r fun _ w' => (Result.ok () w' : Result Unit)) hst).trans rfl
  · refine ⟨_, ?_, hK⟩
    have hp : p = ⟨p.block, p.off, none⟩ := by cases p; simp_all
    have hsc := run_storeCells_cells (P := P) p.block p.off cs.toList 0 w (by simpa using hc) (by simpa using hf) h1
    rw [← hp] at hsc
    simp only [storeVar, Sem.run_bind, hs, Result.andThen_ok]
    rw [if_neg (by simp [hsz])]
    simpa [Value.cells] using hsc

theorem Same.drew (w : World) : Same w w.drew := rfl

theorem first_run {P : Program} {sz n len cap : Nat} {A : Option Addr} {cs : List Value} {w : World} (hl : cs.length = n * sz) (h : 0 < n → ∃ p, A = some p ∧ cellsAt w p cs) :
    (Builtin.firstCells sz n (.slice A len cap)).run P w = .ok cs.toArray w := by
  cases A with
  | none =>
    have : n = 0 := by
      rcases Nat.eq_zero_or_pos n with h0 | h0
      · exact h0
      · obtain ⟨p, hp, _⟩ := h h0; cases hp
    subst this
    have : cs = [] := List.eq_nil_of_length_eq_zero (by simpa using hl)
    subst this
    simp [Builtin.firstCells]
  | some a =>
    refine run_firstCells_some w sz n a len cap cs hl (fun j v hj => ?_)
    rcases Nat.eq_zero_or_pos n with h0 | h0
    · subst h0
      have : cs = [] := List.eq_nil_of_length_eq_zero (by simpa using hl)
      subst this
      simp at hj
    · obtain ⟨p, hp, hc⟩ := h h0
      cases hp
      exact hc j v hj

/-- Append, whatever the source: what its length and its cells come to is told. -/
theorem appC_run {P : Program} {t u ty e : TypeId} {i : TypeInfo} {z : Value} (ht : P.underlying t = some (.slice e)) (hi : P.info? e = some i) (hz : i.zero = some z)
    {A : Option Addr} {n c m : Nat} {new : List Value} {y : Value} {w : World} {K : Value → World → Prop} (hl : new.length = m * i.size)
    (hrun : ∀ w', Same w w' → (n + m ≤ c → (Builtin.append_ #[t, u] ty #[.slice A n c, y]).run P w' =
        ((match A with | some a => storeCells (a.add (n * i.size)) new | none => pure () : Sem Unit).run P w').andThen fun _ w'' => .ok (.slice A (n + m) c) w'') ∧
      (c < n + m → (n + m) * i.bytes ≤ 140737488355328 → n + m ≤ 9223372036854775807 → 0 < i.bytes → ∀ old : List Value, old.length = n * i.size → (0 < n → ∃ p, A = some p ∧ cellsAt w p old) →
        (Builtin.append_ #[t, u] ty #[.slice A n c, y]).run P w' = .ok (.slice (some ⟨w'.heap.size, 0, none⟩) (n + m) (grownCap w' (n + m) c e)) (w'.drew.alloc (.cells ((old ++ new).toArray ++ Builtin.zeroCells z.cells (grownCap w' (n + m) c e - (n + m))) e))))
    (h : appC e i.size i.bytes z.cells A n c m new w K) :
    ∃ v w', (Builtin.append_ #[t, u] ty #[.slice A n c, y]).run P w = .ok v w' ∧ K v w' := by
  obtain ⟨hroom, hgrow⟩ := h
  obtain ⟨h1, h2⟩ := hrun w rfl
  rcases Nat.lt_or_ge c (n + m) with hc | hc
  · obtain ⟨old, hlo, hold, hby, hmax, hb0, hK⟩ := hgrow hc
    have hcap : n + m ≤ grownCap w (n + m) c e ∧ grownCap w (n + m) c e ≤ 9223372036854775807 := by
      unfold grownCap
      simp only [Question.cut]
      have hlt := Nat.mod_lt (w.tape w.drawn (.appendCap (n + m) c e)) (show 0 < 2 ^ 63 - (n + m) by omega)
      omega
    exact ⟨_, _, h2 hc hby hmax hb0 old hlo hold, hK _ hcap.1 hcap.2⟩
  · have h1 := h1 hc
    rcases hroom hc with ⟨rfl, hK⟩ | ⟨b, o, rfl, hone, hcell, hfr, hK⟩
    · have : new = [] := List.eq_nil_of_length_eq_zero (by simpa using hl)
      subst this
      refine ⟨_, _, ?_, hK⟩
      rw [h1]
      cases A <;> simp [storeCells]
    · refine ⟨_, _, ?_, hK⟩
      rw [h1]
      have hst := run_storeCells_cells (P := P) b (o + n * i.size) new 0 w (by simpa using hcell) (by simpa using hfr) hone
      simp only [Nat.add_zero] at hst
      simp only [Addr.add_lit, hst, Result.andThen_ok]

theorem grow_facts {n m c bytes : Nat} (hc : c < n + m) (hby : (n + m) * bytes ≤ 140737488355328) (hmax : n + m ≤ 9223372036854775807) :
    ¬ (n + m ≤ c) ∧ ¬ (9223372036854775807 < ((n : Int) + (m : Int))) ∧ ¬ (281474976710656 < Builtin.nextslicecap (n + m) c * bytes) := by
  have := growslice_fits hc hby
  exact ⟨by omega, by omega, by omega⟩

theorem app_run {P : Program} {t u ty e : TypeId} {i : TypeInfo} {z : Value} {e' : TypeId} (ht : P.underlying t = some (.slice e)) (hu : P.underlying u = some (.slice e')) (hi : P.info? e = some i) (hz : i.zero = some z)
    {x y : Value} {w : World} {K : Value → World → Prop} (h : appK e i.size i.bytes z.cells x y w K) :
    ∃ v w', (Builtin.append_ #[t, u] ty #[x, y]).run P w = .ok v w' ∧ K v w' := by
  obtain ⟨A, n, c, rfl, h1⟩ := slK_elim h
  obtain ⟨B, m, d, rfl, new, hl, hnew, h⟩ := slK_elim h1
  refine appC_run ht hi hz hl (fun w' hw => ?_) h
  have hfn := first_run (P := P) (w := w') (len := m) (cap := d) hl (fun h0 => let ⟨p, hp, hc⟩ := hnew h0; ⟨p, hp, hw.cellsAt hc⟩)
  have hfn' := first_run (P := P) (w := w'.drew) (len := m) (cap := d) hl (fun h0 => let ⟨p, hp, hc⟩ := hnew h0; ⟨p, hp, Same.cellsAt (Eq.trans (Same.drew _) hw) hc⟩)
  constructor
  · intro hc
    cases A <;> simp [Builtin.append_, run_underlying ht, run_underlying hu, sizeOf, typeInfo, hi, Builtin.lenOf, hc, hfn]
  · intro hc hby hmax hb0 old hlo hold
    have hfo := first_run (P := P) (w := w'.drew) (len := n) (cap := c) hlo (fun h => let ⟨p, hp, hc⟩ := hold h; ⟨p, hp, Same.cellsAt (Eq.trans (Same.drew _) hw) hc⟩)
    obtain ⟨g1, g2, g3⟩ := grow_facts hc hby hmax
    simp [Builtin.append_, run_underlying ht, run_underlying hu, sizeOf, typeInfo, zeroValue, hi, hz, Builtin.lenOf, g1, g2, g3, Question.forced, hfo, hfn', newRow, grownCap]
    congr 2
    apply Array.ext'
    simp [List.append_assoc]

theorem apps_run {P : Program} {t u ty e : TypeId} {i : TypeInfo} {z : Value} (ht : P.underlying t = some (.slice e)) (hu : P.underlying u = some .string) (hi : P.info? e = some i) (hz : i.zero = some z) (hsz : i.size = 1)
    {x y : Value} {w : World} {K : Value → World → Prop} (h : appsK e i.bytes z.cells x y w K) :
    ∃ v w', (Builtin.append_ #[t, u] ty #[x, y]).run P w = .ok v w' ∧ K v w' := by
  obtain ⟨A, n, c, rfl, h1⟩ := slK_elim h
  obtain ⟨s, rfl, h⟩ := strK_elim h1
  have h : appC e i.size i.bytes z.cells A n c s.size (bytesL s) w K := by rw [hsz]; exact h
  have hx : (Array.map (fun b : UInt8 => Value.int IntKind.u8 (b.toNat : Int)) s.data).extract 0 s.size = (bytesL s).toArray := by
    have hs : s.size = (Array.map (fun b : UInt8 => Value.int IntKind.u8 (b.toNat : Int)) s.data).size := by rw [Array.size_map]; rfl
    rw [hs, Array.extract_size]
    apply Array.ext'
    simp [bytesL]
  refine appC_run ht hi hz (by simp [bytesL, hsz]) (fun w' hw => ?_) h
  constructor
  · intro hc
    cases A <;> simp [Builtin.append_, run_underlying ht, run_underlying hu, sizeOf, typeInfo, hi, Builtin.lenOf, hc, Builtin.firstCells, hx]
  · intro hc hby hmax hb0 old hlo hold
    have hfo := first_run (P := P) (w := w'.drew) (len := n) (cap := c) hlo (fun h => let ⟨p, hp, hc⟩ := hold h; ⟨p, hp, Same.cellsAt (Eq.trans (Same.drew _) hw) hc⟩)
    obtain ⟨g1, g2, g3⟩ := grow_facts hc hby hmax
    simp [Builtin.append_, run_underlying ht, run_underlying hu, sizeOf, typeInfo, zeroValue, hi, hz, Builtin.lenOf, g1, g2, g3, Question.forced, hfo, newRow, grownCap]
    rw [show Builtin.firstCells i.size s.size (.string s) = pure ((s.extract 0 s.size).data.map fun b => .int .u8 b.toNat) from rfl]
    simp [hx]
    congr 2
    apply Array.ext'
    simp [List.append_assoc, bytesL]

theorem appz_run {P : Program} {t u ty e : TypeId} {i : TypeInfo} {z : Value} {k' : IntKind} (ht : P.underlying t = some (.slice e)) (hu : P.underlying u = some (.int k')) (hi : P.info? e = some i) (hz : i.zero = some z)
    {x y : Value} {w : World} {K : Value → World → Prop} (h : appzK e i.size i.bytes z.cells x y w K) :
    ∃ v w', (Builtin.append_ #[t, u] ty #[x, y]).run P w = .ok v w' ∧ K v w' := by
  obtain ⟨A, n, c, rfl, h1⟩ := slK_elim h
  obtain ⟨k, l, rfl, h0, h1, h2, hzs, h⟩ := intK_elim h1
  have wl : IntKind.i64.wrap l = l := by rw [IntKind.wrap_i64]; omega
  have n1 : ¬ (l < 0) := by omega
  have n2 : ¬ (281474976710656 < l * (i.bytes : Int)) := by omega
  have hlen : (Builtin.zeroCells z.cells l.toNat).toList.length = l.toNat * i.size := by simp [Builtin.zeroCells, hzs]
  refine appC_run ht hi hz hlen (fun w' hw => ?_) h
  have hz0 : l.toNat * i.size = 0 → Builtin.zeroCells z.cells l.toNat = #[] := fun h => by
    apply Array.eq_empty_of_size_eq_zero
    simp [Builtin.zeroCells, hzs, h]
  constructor
  · intro hc
    by_cases hq : l.toNat * i.size = 0
    · have hz1 := hz0 hq
      cases A <;> simp [Builtin.append_, run_underlying ht, run_underlying hu, sizeOf, typeInfo, hi, asInt, asIntOf, wl, n1, n2, hc, hq, hz1]
    · cases A <;> simp [Builtin.append_, run_underlying ht, run_underlying hu, sizeOf, typeInfo, hi, asInt, asIntOf, wl, n1, n2, hc, hq, zeroValue, hz]
  · intro hc hby hmax hb0 old hlo hold
    have hfo := first_run (P := P) (w := w'.drew) (len := n) (cap := c) hlo (fun h => let ⟨p, hp, hc⟩ := hold h; ⟨p, hp, Same.cellsAt (Eq.trans (Same.drew _) hw) hc⟩)
    obtain ⟨g1, g2, g3⟩ := grow_facts hc hby hmax
    have g2' : ¬ (9223372036854775807 < (n : Int) + l) := by omega
    have g4 : max l 0 = l := by omega
    by_cases hq : l.toNat * i.size = 0
    · have hz1 := hz0 hq
      simp [Builtin.append_, run_underlying ht, run_underlying hu, sizeOf, typeInfo, hi, asInt, asIntOf, wl, n1, n2, g1, g2', g3, g4, hq, hz1, Question.forced, hfo, newRow, grownCap, zeroValue, hz]
    · simp [Builtin.append_, run_underlying ht, run_underlying hu, sizeOf, typeInfo, hi, asInt, asIntOf, wl, n1, n2, g1, g2', g3, g4, hq, Question.forced, hfo, newRow, grownCap, zeroValue, hz]
      congr 2
      apply Array.ext'
      simp [List.append_assoc]

theorem call_run {P : Program} {f : FuncId} {fn : Func} (hf : P.funcs[f]? = some fn) (h1 : (fn.name == "runtime.NumGoroutine") = false) (h2 : fn.body.isNone = false) (args : Array Value) (w : World) :
    (callFunc f args).run P w = .ok (.enter f args) w := by
  have h3 : ¬ (fn.name = "runtime.NumGoroutine") := by simpa using h1
  have h4 : ¬ (fn.body = none) := by intro h; rw [h] at h2; cases h2
  simp [callFunc, hf, h3, h4]
theorem exec_call {P : Program} {f : FuncId} {fn : Func} (hf : P.funcs[f]? = some fn) (h1 : (fn.name == "runtime.NumGoroutine") = false) (h2 : fn.body.isNone = false) (ρ : Env) (dst : Option Tmp) (args : Array Operand) (ats : Array TypeId) (ty : TypeId) (pos : String) (af : Array Edge) (gd : Option (Nat × Bool)) (w : World) :
    (execOp (ev ρ) ⟨dst, .call ⟨.value (.func f), args, ats⟩, ty, pos, af, gd⟩).run P w = .ok (.enter f (args.map (ev ρ))) w := by
  have := call_run hf h1 h2 (args.map (ev ρ)) w
  simp [execOp, resolve, Deferred.ofValue, ev, invoke, this]
theorem exec_built (ρ : Env) (dst : Option Tmp) (b : Builtin) (xs : Array Operand) (ats : Array TypeId) (ty : TypeId) (pos : String) (af : Array Edge) (gd : Option (Nat × Bool)) :
    execOp (ev ρ) ⟨dst, .call ⟨.builtin b, xs, ats⟩, ty, pos, af, gd⟩ = builtin b ats ty (xs.map fun | .const _ => true | _ => false) (xs.map (ev ρ)) := rfl

theorem i_sound {P : Program} {o : Oper} {i : I} (hi : strOp P o.op = some i) {ρ : Env} {w : World} {K : Value → World → Prop} (h : iW P i ρ w K) : runK P o (ev ρ) w K := by
  have ro : ∀ i, strOp P o.op = some i → rW i ρ w (fun v => K v w) → runK P o (ev ρ) w K := fun i hi h => by
    obtain ⟨v, hK, hr⟩ := r_sound hi h
    exact runK_value (hr w (fun _ => rfl)) hK
  obtain ⟨dst, op, ty, pos, af, gd⟩ := o
  have hi0 := hi
  simp only at hi
  cases op <;> simp only [strOp] at hi
  case load t a =>
    cases hk : tyk P t with
    | none => simp [hk] at hi
    | some k =>
      simp only [hk, Option.bind_some] at hi
      split at hi
      · cases hi; exact ro _ hi0 h
      · cases hi
  case store t a' x' =>
    split at hi
    · rename_i hinfo
      cases hi
      obtain ⟨p, hp, h⟩ := ptrK_elim h
      obtain ⟨w', hr, hK⟩ := st_run hinfo h
      refine runK_skip ?_ hK
      simp [execOp, Instr.storeAt, Instr.sureAddr, hp, hr]
    · cases hi
  case alloc t' =>
    simp only [Option.map_eq_some_iff] at hi
    obtain ⟨z', hz, hi⟩ := hi
    cases hi
    refine runK_value ?_ h
    have := zero_run hz w
    simp [execOp, Instr.alloc, this, newVar, newRow]
  case box t' x' =>
    cases hi
    refine runK_value ?_ h
    simp [execOp, Instr.box, newVar, newRow]
  case range t' x' =>
    split at hi
    · rename_i hu
      cases hi
      obtain ⟨s, hx, hK⟩ := strK_elim h
      refine runK_value ?_ hK
      simp [execOp, Instr.range, hx, run_underlying hu]
    · cases hi
  case next x' b =>
    split at hi
    · rename_i hb
      have hb : b = true := by simpa using hb
      subst hb
      cases hi
      obtain ⟨p, hx, h0, s, pos, hh, h1, h2⟩ := ptrK_elim h
      obtain ⟨pb, po, ps⟩ := p
      have h0 : po = 0 := h0
      subst h0
      have hh : w.heap[pb]? = some (.stringIter s pos) := hh
      by_cases hlt : pos < s.size
      · refine runK_value ?_ (h1 hlt)
        simp [execOp, Instr.next, hx, getObj, setObj, Sem.run, hh, hlt, goInt]
      · refine runK_value ?_ (h2 (by omega))
        simp [execOp, Instr.next, hx, getObj, Sem.run, hh, hlt]
    · cases hi
  case buildSlice t len parts =>
    split at hi
    · rename_i e he
      split at hi
      · rename_i z' hz
        have hinfo : (P.info? e).isSome = true := by unfold zeroOf at hz; cases hq : P.info? e <;> simp [hq] at hz ⊢
        have hs := size_of hinfo w
        have hzr := zero_run hz w
        split at hi
        · rename_i hc
          simp only [Bool.and_eq_true, beq_iff_eq, List.isEmpty_iff] at hc
          obtain ⟨rfl, hc⟩ := hc
          cases hi
          have hp : parts = #[] := by rw [← Array.toList_inj]; simpa using hc
          subst hp
          refine runK_value ?_ h
          show (Instr.buildSlice t 0 ((#[] : Array (Nat × Operand)).map fun (x : Nat × Operand) => (x.1, ev ρ x.2)) >>= fun v => pure (Next.value v)).run P w = _
          simp only [Instr.buildSlice, Sem.run_bind, run_underlying he, Result.andThen_ok, hs, Nat.zero_mul]
          simp [Instr.fill, newRow, Array.range_zero']
        · split at hi
          · rename_i hc
            simp only [Bool.and_eq_true, Bool.not_eq_true', beq_eq_false_iff_ne, ne_eq, decide_eq_true_eq] at hc
            cases hi
            obtain ⟨cs, hcs, hK⟩ := h
            refine runK_value ?_ hK
            have hfill : Instr.fill (fun i => some (i * P.cellsOf e, P.cellsOf e)) ((Array.range (len * P.cellsOf e)).map (z'.cells[· % z'.cells.size]!)) ((parts.map fun (x : Nat × Operand) => (x.1, ev ρ x.2)).toList) = some cs := by
              simpa [fillS] using hcs
            show (Instr.buildSlice t len (parts.map fun (x : Nat × Operand) => (x.1, ev ρ x.2)) >>= fun v => pure (Next.value v)).run P w = _
            have h24 : ¬ (len * P.cellsOf e > 2 ^ 24) := by omega
            simp only [Instr.buildSlice, Sem.run_bind, run_underlying he, Result.andThen_ok, hs, if_neg h24, if_neg hc.1, hzr, Sem.run_pure, hfill]
            simp [newRow]
          · cases hi
      · cases hi
    · cases hi
  case makeSlice t l' c' =>
    split at hi
    · rename_i e he
      split at hi
      · rename_i i hinfo
        simp only [Option.map_eq_some_iff] at hi
        obtain ⟨z', hz, hi⟩ := hi
        cases hi
        obtain ⟨kl, l, hl, h⟩ := intK_elim h
        obtain ⟨kc, c, hc, h0, hlc, hb, h63, hK⟩ := intK_elim h
        refine runK_value ?_ hK
        have hr := run_make (P := P) w t e i z' he hinfo hz kl kc l c h0 hlc hb h63
        simp [execOp, hl, hc, hr]
      · cases hi
    · cases hi
  case convert s d x =>
    split at hi
    · rename_i hs
      split at hi
      · cases hi; exact ro _ hi0 h
      · split at hi
        · cases hi; exact ro _ hi0 h
        · split at hi
          · cases hi; exact ro _ hi0 h
          · cases hi
        · cases hi
      · split at hi
        · rename_i hsd
          have hsd : s = d := by simpa using hsd
          subst hsd
          split at hi
          · rename_i e he
            split at hi
            · rename_i he8
              cases hi
              obtain ⟨A, n, c, hv, a, rfl, hK⟩ := slK_elim h
              refine runK_value ?_ hK
              have : (convert s s (.slice (some a) n c)).run P w = .ok (.slice (some a) n c) (markW w a) := by
                cases hsh : w.shape? a.block with
                | none => simp [convert, run_underlying he, run_underlying he8, markStringish, markW, hsh]
                | some q => obtain ⟨t, m⟩ := q; simp [convert, run_underlying he, run_underlying he8, markStringish, markW, hsh]
              simp [execOp, hv, this]
            · cases hi
          · cases hi
        · cases hi
      · cases hi
    · cases hi
  case call c =>
    obtain ⟨callee, args', ats⟩ := c
    cases callee <;> try simp only at hi
    case invoke => cases hi
    case value g =>
      cases g <;> try simp only at hi
      case func g =>
        split at hi
        · rename_i fn hfn
          split at hi
          · cases hi
          · rename_i hne
            simp only [Bool.or_eq_true, not_or, Bool.not_eq_true, Option.isNone_eq_false_iff] at hne
            cases hi
            have hb : fn.body.isNone = false := by simpa using hne.2
            have hr := exec_call hfn hne.1 hb ρ dst args' ats ty pos af gd w
            unfold runK
            rw [hr]
            have h2 : callK P g (args'.toList.map (ev ρ)) w K := h
            simpa using h2
        · cases hi
      all_goals cases hi
    case builtin b =>
      cases b <;> try simp only at hi
      case append =>
        split at hi
        · rename_i x y t u hx ht
          have hx' : args' = #[x, y] := by rw [← hx]
          have ht' : ats = #[t, u] := by rw [← ht]
          subst hx'; subst ht'
          have hex : (execOp (ev ρ) ⟨dst, .call ⟨.builtin .append, #[x, y], #[t, u]⟩, ty, pos, af, gd⟩) = (Builtin.append_ #[t, u] ty #[ev ρ x, ev ρ y] >>= fun v => pure (Next.value v)) := by
            rw [exec_built]
            simp [builtin]
          have fin : ∀ v w', (Builtin.append_ #[t, u] ty #[ev ρ x, ev ρ y]).run P w = .ok v w' → K v w' → runK P ⟨dst, .call ⟨.builtin .append, #[x, y], #[t, u]⟩, ty, pos, af, gd⟩ (ev ρ) w K := by
            intro v w' hr hK
            refine runK_value ?_ hK
            rw [hex, Sem.run_bind, hr]
            rfl
          split at hi
          · rename_i e1 e2 he1 he2
            split at hi
            · rename_i inf hinf
              split at hi
              · cases hi
              · simp only [Option.map_eq_some_iff] at hi
                obtain ⟨z', hz, hi⟩ := hi
                cases hi
                obtain ⟨v, w', hr, hK⟩ := app_run (ty := ty) he1 he2 hinf hz h
                exact fin v w' hr hK
            · cases hi
          · rename_i e1 e2 he1 he2
            split at hi
            · rename_i inf hinf
              split at hi
              · cases hi
              · simp only [Option.map_eq_some_iff] at hi
                obtain ⟨z', hz, hi⟩ := hi
                cases hi
                obtain ⟨v, w', hr, hK⟩ := appz_run (ty := ty) he1 he2 hinf hz h
                exact fin v w' hr hK
            · cases hi
          · rename_i e1 he1 he2
            split at hi
            · rename_i inf hinf
              split at hi
              · rename_i hsz
                simp only [Option.map_eq_some_iff] at hi
                obtain ⟨z', hz, hi⟩ := hi
                cases hi
                obtain ⟨v, w', hr, hK⟩ := apps_run (ty := ty) he1 he2 hinf hz (by simpa using hsz) h
                exact fin v w' hr hK
              · cases hi
            · cases hi
          · cases hi
        · cases hi
      case copy =>
        split at hi
        · rename_i x y t u hx ht
          split at hi
          · rename_i e1 e2 he1 he2
            split at hi
            · rename_i hinf
              cases hi
              have hx' : args' = #[x, y] := by rw [← hx]
              have ht' : ats = #[t, u] := by rw [← ht]
              subst hx'; subst ht'
              simp only [iW] at h
              split at h
              · rename_i A n c1 B m c2 hA hB
                obtain ⟨new, hl, hpos, hzero⟩ := h
                have hs := size_of hinf w
                have : (execOp (ev ρ) ⟨dst, .call ⟨.builtin .copy, #[x, y], #[t, u]⟩, ty, pos, af, gd⟩) = (Builtin.copy_ #[t, u] ty #[ev ρ x, ev ρ y] >>= fun v => pure (Next.value v)) := by
                  rw [exec_built]
                  simp [builtin]
                rcases Nat.eq_zero_or_pos (Nat.min m n) with h0 | h0
                · have hK := hzero h0
                  refine runK_value ?_ hK
                  have hf := first_run (P := P) (sz := P.cellsOf e1) (n := Nat.min m n) (len := m) (cap := c2) (A := B) (cs := []) (w := w) (by simp [h0]) (by omega)
                  rw [this, Sem.run_bind, hA, hB]
                  have hr : (Builtin.copy_ #[t, u] ty #[.slice A n c1, .slice B m c2]).run P w = .ok (.int .i64 0) w := by
                    rw [h0] at hf
                    cases A <;> simp [Builtin.copy_, run_underlying he1, Builtin.lenOf, hs, hf, goInt, storeCells, h0]
                  rw [hr]; rfl
                · obtain ⟨p, b, o, rfl, hc, rfl, h1, hcell, hfr, hK⟩ := hpos h0
                  refine runK_value ?_ hK
                  have hf := first_run (P := P) (sz := P.cellsOf e1) (n := Nat.min m n) (len := m) (cap := c2) (A := some p) (cs := new) (w := w) hl (fun _ => ⟨p, rfl, hc⟩)
                  have hst := run_storeCells_cells (P := P) b o new 0 w (by simpa using hcell) (by simpa using hfr) h1
                  simp only [Nat.add_zero] at hst
                  rw [this, Sem.run_bind, hA, hB]
                  have hr : (Builtin.copy_ #[t, u] ty #[.slice (some ⟨b, o, none⟩) n c1, .slice (some p) m c2]).run P w = .ok (.int .i64 ((Nat.min m n : Nat) : Int)) (w.setCells b o new) := by
                    simp [Builtin.copy_, run_underlying he1, Builtin.lenOf, hs, hf, goInt, hst]
                  rw [hr]; rfl
              · exact h.elim
            · cases hi
          · cases hi
        · cases hi
      all_goals ((repeat' split at hi) <;> first | (cases hi; done) | (cases hi; exact ro _ hi0 h))
  all_goals ((repeat' split at hi) <;> first | (cases hi; done) | (cases hi; exact ro _ hi0 h))

/-- In a region that draws. -/
theorem q_sound {P : Program} {o : Oper} {i : I} (hi : strOp P o.op = some i) {a : Act} {ρ : Env} (ha : a.eval = ev ρ) {w : World} {K : Value → Prop} (h : qW P i ρ w K) :
    ∃ v, (∀ w', (∃ n, w' = w.drewN n) → o.quietAt P a (fun w' => ∃ n, w' = w.drewN n) w' v) ∧ K v := by
  have ro : ∀ i, strOp P o.op = some i → rW i ρ w K → ∃ v, (∀ w', (∃ n, w' = w.drewN n) → o.quietAt P a (fun w' => ∃ n, w' = w.drewN n) w' v) ∧ K v := fun i hi h => by
    obtain ⟨v, hK, hr⟩ := r_sound hi h
    refine ⟨v, fun w' hw' => ?_, hK⟩
    obtain ⟨n, rfl⟩ := hw'
    unfold Oper.quietAt
    rw [ha, hr (w.drewN n) (fun _ => rfl)]
    exact ⟨rfl, rfl⟩
  cases i
  case call f args =>
    obtain ⟨dst, op, ty, pos, af, gd⟩ := o
    obtain ⟨v, hc, hK⟩ := h
    refine ⟨v, fun w' hw' => ?_, hK⟩
    obtain ⟨n, rfl⟩ := hw'
    have := i_sound (P := P) (o := ⟨dst, op, ty, pos, af, gd⟩) hi (ρ := ρ) (w := w.drewN n) (K := fun v' w' => v' = v ∧ ∃ m, w' = w.drewN m) (hc n)
    simp only at hi
    cases op <;> simp only [strOp] at hi <;> try (first | (cases hi; done) | (exfalso; (repeat' split at hi) <;> first | (cases hi; done) | (simp only [Option.map_eq_some_iff] at hi; obtain ⟨_, _, hi⟩ := hi; cases hi; done)))
    case load =>
      exfalso
      rename_i t a'
      cases hk : tyk P t with
      | none => simp [hk] at hi
      | some k => simp only [hk, Option.bind_some] at hi; split at hi <;> cases hi
    case call c =>
      obtain ⟨callee, args', ats⟩ := c
      cases callee <;> try simp only at hi
      case invoke => cases hi
      case value g =>
        cases g <;> try simp only at hi
        case func g =>
          split at hi
          · rename_i fn hfn
            split at hi
            · cases hi
            · rename_i hne
              simp only [Bool.or_eq_true, not_or, Bool.not_eq_true, Option.isNone_eq_false_iff] at hne
              cases hi
              have hb : fn.body.isNone = false := by simpa using hne.2
              have hr := exec_call hfn hne.1 hb ρ dst args' ats ty pos af gd (w.drewN n)
              unfold Oper.quietAt
              rw [ha, hr]
              refine ⟨rfl, ?_⟩
              have h2 := hc n
              unfold callK at h2
              simp only [List.map_toArray, Array.toArray_toList, ← Array.toList_map] at h2
              exact h2.mono fun e w'' ⟨v', he, hv', hw''⟩ => ⟨by rw [he, hv'], hw''⟩
          · cases hi
        all_goals cases hi
      case builtin b =>
        exfalso
        cases b <;> (try simp only at hi) <;> try (first | (cases hi; done) | ((repeat' split at hi) <;> first | (cases hi; done) | (simp only [Option.map_eq_some_iff] at hi; obtain ⟨_, _, hi⟩ := hi; cases hi; done)))
  all_goals exact ro _ hi h

end Go.Proofs.YtcflokckfjkdpaaDoor.Eng
