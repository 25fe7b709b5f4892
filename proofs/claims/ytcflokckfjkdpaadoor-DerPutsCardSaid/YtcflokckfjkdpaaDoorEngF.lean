/- The engine: how it is unfolded, and the rules by hand. -/
import Derived.Test.YtcflokckfjkdpaaDoorEngE
set_option linter.unusedVariables false
set_option linter.unusedSimpArgs false
namespace Go.Proofs.YtcflokckfjkdpaaDoor.Eng
open Go Go.RowKit

/-! ### Where simp stays out -/
@[congr] theorem c_letK {v v' : Value} (h : v = v') (K : Value → Prop) : letK v K = letK v' K := by rw [h]
@[congr] theorem c_boolK {v v' : Value} (h : v = v') (K : Bool → Prop) : boolK v K = boolK v' K := by rw [h]
@[congr] theorem c_intK {v v' : Value} (h : v = v') (K : Int → Prop) : intK v K = intK v' K := by rw [h]
@[congr] theorem c_ptrK {v v' : Value} (h : v = v') (K : Addr → Prop) : ptrK v K = ptrK v' K := by rw [h]
@[congr] theorem c_slK {v v' : Value} (h : v = v') (K : Option Addr → Nat → Nat → Prop) : slK v K = slK v' K := by rw [h]
@[congr] theorem c_tupK {v v' : Value} (h : v = v') (i : Nat) (K : Value → Prop) : tupK v i K = tupK v' i K := by rw [h]
@[congr] theorem c_optK {v v' : Option Value} (h : v = v') (K : Option Int → Prop) : optK v K = optK v' K := by rw [h]
@[congr] theorem c_binK (op : BinOp) {x x' y y' : Value} (hx : x = x') (hy : y = y') (K : Value → Prop) : binK op x y K = binK op x' y' K := by rw [hx, hy]
@[congr] theorem c_eqK (k : TyK) (n : Bool) {x x' y y' : Value} (hx : x = x') (hy : y = y') (K : Value → Prop) : eqK k n x y K = eqK k n x' y' K := by rw [hx, hy]
@[congr] theorem c_unK (op : UnOp) {x x' : Value} (hx : x = x') (K : Value → Prop) : unK op x K = unK op x' K := by rw [hx]
@[congr] theorem c_ldK (w : World) (k : TyK) {p p' : Addr} (h : p = p') (K : Value → Prop) : ldK w k p K = ldK w k p' K := by rw [h]
@[congr] theorem c_stK (n : Nat) {p p' : Addr} {v v' : Value} (h : p = p') (hv : v = v') (w : World) (K : World → Prop) : stK n p v w K = stK n p' v' w K := by rw [h, hv]
@[congr] theorem c_gK {b b' : Bool} (h : b = b') (A B : Prop) : gK b A B = gK b' A B := by rw [h]
@[congr] theorem c_appK (e sz bytes : Nat) (z : Array Value) {x x' y y' : Value} (hx : x = x') (hy : y = y') (w : World) (K : Value → World → Prop) : appK e sz bytes z x y w K = appK e sz bytes z x' y' w K := by rw [hx, hy]
@[congr] theorem c_callK (P : Program) (f : FuncId) {a a' : List Value} (h : a = a') (w : World) (K : Value → World → Prop) : callK P f a w K = callK P f a' w K := by rw [h]
@[congr] theorem c_qcallK (P : Program) (f : FuncId) {a a' : List Value} (h : a = a') (w : World) (K : Value → Prop) : qcallK P f a w K = qcallK P f a' w K := by rw [h]
@[congr] theorem c_strK {v v' : Value} (h : v = v') (K : ByteArray → Prop) : strK v K = strK v' K := by rw [h]
@[congr] theorem c_appsK (e bytes : Nat) (z : Array Value) {x x' y y' : Value} (hx : x = x') (hy : y = y') (w : World) (K : Value → World → Prop) : appsK e bytes z x y w K = appsK e bytes z x' y' w K := by rw [hx, hy]
@[congr] theorem c_appzK (e sz bytes : Nat) (z : Array Value) {x x' y y' : Value} (hx : x = x') (hy : y = y') (w : World) (K : Value → World → Prop) : appzK e sz bytes z x y w K = appzK e sz bytes z x' y' w K := by rw [hx, hy]
@[congr] theorem c_scrW (P : Program) (l : List O) (s : List (Nat × Nat)) (K : Env → World → Prop) (ρ : Env) (w : World) : scrW P l s K ρ w = scrW P l s K ρ w := (rfl)
@[congr] theorem c_opsW (P : Program) {l l' : List O} (h : l = l') (K : Env → World → Prop) (ρ : Env) (w : World) : opsW P l K ρ w = opsW P l' K ρ w := by rw [h]
@[congr] theorem c_qopsW (P : Program) {l l' : List O} (h : l = l') (K : Env → Prop) (ρ : Env) (w : World) : qopsW P w l K ρ = qopsW P w l' K ρ := by rw [h]
@[congr] theorem c_W (P : Program) (s : S) (K : Exit → Env → World → Prop) (ρ : Env) (w : World) : s.W P K ρ w = s.W P K ρ w := (rfl)
@[congr] theorem c_iW (P : Program) (i : I) (K : Value → World → Prop) (ρ : Env) (w : World) : iW P i ρ w K = iW P i ρ w K := (rfl)
@[congr] theorem c_qW (P : Program) (i : I) (K : Value → Prop) (ρ : Env) (w : World) : qW P i ρ w K = qW P i ρ w K := (rfl)
@[congr] theorem c_rW (i : I) (K : Value → Prop) (ρ : Env) (w : World) : rW i ρ w K = rW i ρ w K := (rfl)
@[congr] theorem c_seqK (N : Env → World → Prop) (K : Exit → Env → World → Prop) (e : Exit) (ρ : Env) (w : World) : seqK N K e ρ w = seqK N K e ρ w := (rfl)
@[congr] theorem c_blkK (id : Nat) (K : Exit → Env → World → Prop) (e : Exit) (ρ : Env) (w : World) : blkK id K e ρ w = blkK id K e ρ w := (rfl)

/-- A mark that keeps what it bears as it stands. -/
inductive Tok.{u} {α : Sort u} (a : α) : Type where
  | mk
@[reducible] def callT (P : Program) (f : FuncId) (args : List Value) (w : World) (K : Value → World → Prop) (_ : Tok K) : Prop := callK P f args w K
@[reducible] def qcallT (P : Program) (f : FuncId) (args : List Value) (w : World) (K : Value → Prop) (_ : Tok K) : Prop := qcallK P f args w K
@[reducible] def stT (n : Nat) (p : Addr) (v : Value) (w : World) (K : World → Prop) (_ : Tok K) : Prop := stK n p v w K
@[reducible] def alT (cs : Array Value) (t : TypeId) (w : World) (K : World → Prop) (_ : Tok K) : Prop := K (w.alloc (.cells cs t))
@[reducible] def ldT (w : World) (n : Nat) (p : Addr) (K : Value → Prop) (_ : Tok K) : Prop := ldK w (.agg n) p K
@[reducible] def appT (e sz bytes : Nat) (z : Array Value) (x y : Value) (w : World) (K : Value → World → Prop) (_ : Tok K) : Prop := appK e sz bytes z x y w K
@[reducible] def appsT (e bytes : Nat) (z : Array Value) (x y : Value) (w : World) (K : Value → World → Prop) (_ : Tok K) : Prop := appsK e bytes z x y w K
@[reducible] def appzT (e sz bytes : Nat) (z : Array Value) (x y : Value) (w : World) (K : Value → World → Prop) (_ : Tok K) : Prop := appzK e sz bytes z x y w K
@[reducible] def bldT (z : Array Value) (pl : List (Nat × Nat)) (parts : List (Nat × Value)) (K : Value → Prop) (_ : Tok K) : Prop := ∃ cs, fillL pl z parts = some cs ∧ K (.agg cs)
@[reducible] def bslT (e sz len : Nat) (z : Array Value) (parts : List (Nat × Value)) (w : World) (K : Value → World → Prop) (_ : Tok K) : Prop := ∃ cs, fillS sz ((Array.range (len * sz)).map (z[· % z.size]!)) parts = some cs ∧ K (.slice (some ⟨w.heap.size, 0, none⟩) len len) (w.alloc (.cells cs e))
@[reducible] def cpyT (sz : Nat) (x y : Value) (w : World) (K : Value → World → Prop) (_ : Tok K) : Prop := match x, y with
    | .slice A n _, .slice B m _ => ∃ new : List Value, new.length = (Nat.min m n) * sz ∧ (0 < Nat.min m n → ∃ p b o, B = some p ∧ cellsAt w p new ∧ A = some ⟨b, o, none⟩ ∧ (∀ v ∈ new, v.oneCell' = true) ∧
        (∀ j, j < new.length → (w.cell? ⟨b, o + j, none⟩).isSome = true) ∧ (∀ j, j < new.length → w.frozen? ⟨b, o + j, none⟩ = false) ∧ K (.int .i64 ((Nat.min m n : Nat) : Int)) (w.setCells b o new)) ∧
        (Nat.min m n = 0 → K (.int .i64 0) w)
    | _, _ => False
@[reducible] def cvbsT (x : Value) (w : World) (K : Value → Prop) (_ : Tok K) : Prop := slK x fun A n _ => ∃ xs : List Int, xs.length = n ∧ (0 < n → ∃ p, A = some p ∧ cellsAt w p (xs.map (Value.int .u8))) ∧ K (.string (strOfNums xs))
/-- A byte of a text. -/
def ixsK (s : ByteArray) (i : Int) (K : Value → Prop) : Prop := ∃ h : i.toNat < s.size, 0 ≤ i ∧ K (.int .u8 ((s[i.toNat]'h).toNat : Int))
@[reducible] def rgsT (s : ByteArray) (w : World) (K : Value → World → Prop) (_ : Tok K) : Prop := K (.pointer (some ⟨w.heap.size, 0, none⟩)) (w.alloc (.stringIter s 0))
@[reducible] def nxsT (p : Addr) (w : World) (K : Value → World → Prop) (_ : Tok K) : Prop := nxsK p w K
/-- A guard. -/
def gB (v : Value) (b : Bool) (A B : Prop) (_ : Tok A) (_ : Tok B) : Prop := gK (match v with | .bool c => c == b | _ => false) A B
theorem gB_tt (A B : Prop) (t s) : gB (.bool true) true A B t s = A := by simp [gB, gK]
theorem gB_ff (A B : Prop) (t s) : gB (.bool false) false A B t s = A := by simp [gB, gK]
theorem gB_tf (A B : Prop) (t s) : gB (.bool true) false A B t s = B := by simp [gB, gK]
theorem gB_ft (A B : Prop) (t s) : gB (.bool false) true A B t s = B := by simp [gB, gK]
theorem gB_un (A B : Prop) (b t s) : gB undef b A B t s = B := by cases b <;> simp [gB, gK, undef]
/-- What a load asks of the cell. -/
def ldC (k : TyK) (c : Option Value) (K : Value → Prop) (_ : Tok K) : Prop :=
  match k, c with
  | .int k, some (.int k' x) => k' = k ∧ K (.int k x)
  | .bool, some (.bool x) => K (.bool x)
  | .string, some (.string x) => K (.string x)
  | .pointer, some (.pointer x) => K (.pointer x)
  | .slice, some (.slice a n c) => K (.slice a n c)
  | .other, some v => K v
  | _, _ => False
theorem ldC_int (k : IntKind) (x : Int) (K) (t) : ldC (.int k) (some (.int k x)) K t = K (.int k x) := by simp [ldC]
theorem ldC_bool (x : Bool) (K) (t) : ldC .bool (some (.bool x)) K t = K (.bool x) := (rfl)
theorem ldC_string (x : ByteArray) (K) (t) : ldC .string (some (.string x)) K t = K (.string x) := (rfl)
theorem ldC_pointer (x : Option Addr) (K) (t) : ldC .pointer (some (.pointer x)) K t = K (.pointer x) := (rfl)
theorem ldC_slice (a : Option Addr) (n c : Nat) (K) (t) : ldC .slice (some (.slice a n c)) K t = K (.slice a n c) := (rfl)
theorem ldC_other (v : Value) (K) (t) : ldC .other (some v) K t = K v := (rfl)
/-- An element's place. -/
def iaK (sz : Nat) (A : Option Addr) (n : Nat) (i : Int) (K : Value → Prop) (_ : Tok K) : Prop := match A with | some p => 0 ≤ i ∧ i < n ∧ K (.pointer (some (p.add (i.toNat * sz)))) | none => False
theorem iaK_some (sz : Nat) (p : Addr) (n : Nat) (i : Int) (K) (t) : iaK sz (some p) n i K t = (0 ≤ i ∧ i < n ∧ K (.pointer (some (p.add (i.toNat * sz))))) := (rfl)
theorem iaK_eq (sz : Nat) (A : Option Addr) (n : Nat) (i : Int) (K) : (∃ p, A = some p ∧ 0 ≤ i ∧ i < n ∧ K (.pointer (some (p.add (i.toNat * sz))))) = iaK sz A n i K .mk := by
  cases A <;> simp [iaK]
def minK (x y : Value) (K : Value → Prop) : Prop := match x, y with
  | .int k a, .int _ b => K (.int k (if b < a then b else a))
  | _, _ => False
def maxK (x y : Value) (K : Value → Prop) : Prop := match x, y with
  | .int k a, .int _ b => K (.int k (if a < b then b else a))
  | _, _ => False
@[congr] theorem c_minK {x x' y y' : Value} (hx : x = x') (hy : y = y') (K : Value → Prop) : minK x y K = minK x' y' K := by rw [hx, hy]
@[congr] theorem c_maxK {x x' y y' : Value} (hx : x = x') (hy : y = y') (K : Value → Prop) : maxK x y K = maxK x' y' K := by rw [hx, hy]
/-- A loop, shut. -/
@[reducible] def loopT (P : Program) (b : S) (K : Exit → Env → World → Prop) (ρ : Env) (w : World) (_ : Tok (b, K, ρ)) : Prop := (S.loop b).W P K ρ w
@[reducible] def joinT (P : Program) (a b : S) (K : Exit → Env → World → Prop) (ρ : Env) (w : World) (_ : Tok (a, b, K, ρ)) : Prop := (S.join a b).W P K ρ w
/-- A region that draws, shut. -/
def drawW (P : Program) (n : Nat) (l : List O) (K : Env → World → Prop) (ρ : Env) (w : World) : Prop := qopsW P w (l.take n) (fun ρ' => ∀ m, opsW P (l.drop n) K ρ' (w.drewN m)) ρ

/-! ### Code -/
theorem W_ops (P : Program) (l : List O) (K) (ρ : Env) (w : World) : (S.ops l).W P K ρ w = opsW P l (K .normal) ρ w := (rfl)
theorem W_draw (P : Program) (n : Nat) (l : List O) (K) (ρ : Env) (w : World) : (S.draw n l).W P K ρ w = qopsW P w (l.take n) (fun ρ' => ∀ m, opsW P (l.drop n) (K .normal) ρ' (w.drewN m)) ρ := (rfl)
theorem W_drawS (P : Program) (s) (l : List O) (K) (ρ : Env) (w : World) : (S.drawS s l).W P K ρ w = scrW P l s (K .normal) ρ (w.drewN 1) := (rfl)
theorem W_drawT (P : Program) (t) (l : List O) (K) (ρ : Env) (w : World) : (S.drawT t l).W P K ρ w = scrT P l t [] (K .normal) ρ (w.drewN 1) := (rfl)
theorem allC_nil (w : World) : allC [] w = True := (rfl)
theorem allC_cons (k p v r) (w : World) : allC ((k, p, v) :: r) w = (ldK w k p (fun v' => v' = v) ∧ allC r w) := (rfl)
@[congr] theorem c_scrT (P : Program) (l : List O) (t : Scr) (cs) (K : Env → World → Prop) (ρ : Env) (w : World) : scrT P l t cs K ρ w = scrT P l t cs K ρ w := (rfl)
theorem scrT_nil (P : Program) (l : List O) (cs) (K) (ρ : Env) (w : World) : scrT P l .nil cs K ρ w = ∀ m, K ρ (w.drewN m) := (rfl)
theorem scrT_cov (P : Program) (l : List O) (c cs) (K) (ρ : Env) (w : World) : scrT P l (.cov c) cs K ρ w = scrT P l c cs K ρ w := (rfl)
def scrX (P : Program) (l : List O) (k : Nat) (o : Option O) (r : Scr) (cs : List (TyK × Addr × Value)) (K : Env → World → Prop) (ρ : Env) (w : World) : Prop :=
  match o with
    | none => False
    | some o => (match k with
      | 0 => gK (gv ρ o.g) (rW o.i ρ w fun v => scrT P l r cs K (updO ρ o.dst v) w) (scrT P l r cs K (updO ρ o.dst undef) w)
      | 1 => gK (gv ρ o.g) (qW P o.i ρ w fun v => scrT P l r cs K (updO ρ o.dst v) w) (scrT P l r cs K (updO ρ o.dst undef) w)
      | 2 => ∀ m, gK (gv ρ o.g) (iW P o.i ρ (w.drewN m) fun v w' => allC cs w' ∧ scrT P l r cs K (updO ρ o.dst v) w') (allC cs (w.drewN m) ∧ scrT P l r cs K (updO ρ o.dst undef) (w.drewN m))
      | _ => gK (gv ρ o.g) (fltK o.i ρ w fun k p v => scrT P l r ((k, p, v) :: cs) K (updO ρ o.dst v) w) (scrT P l r cs K (updO ρ o.dst undef) w))
@[congr] theorem c_scrX (P : Program) (l : List O) (k : Nat) {o o' : Option O} (h : o = o') (r : Scr) (cs) (K : Env → World → Prop) (ρ : Env) (w : World) : scrX P l k o r cs K ρ w = scrX P l k o' r cs K ρ w := by rw [h]
theorem scrT_p (P : Program) (l : List O) (i r cs) (K) (ρ : Env) (w : World) : scrT P l (.st 0 i r) cs K ρ w = scrX P l 0 l[i]? r cs K ρ w := (rfl)
theorem scrT_q (P : Program) (l : List O) (i r cs) (K) (ρ : Env) (w : World) : scrT P l (.st 1 i r) cs K ρ w = scrX P l 1 l[i]? r cs K ρ w := (rfl)
theorem scrT_f (P : Program) (l : List O) (i r cs) (K) (ρ : Env) (w : World) : scrT P l (.st 3 i r) cs K ρ w = scrX P l 3 l[i]? r cs K ρ w := (rfl)
theorem scrT_one (P : Program) (l : List O) (i r cs) (K) (ρ : Env) (w : World) : scrT P l (.one i r) cs K ρ w = scrX P l 2 l[i]? r cs K ρ w := (rfl)
theorem scrT_more (P : Program) (l : List O) (i r c cs) (K) (ρ : Env) (w : World) : scrT P l (.more i r c) cs K ρ w = (scrX P l 2 l[i]? r cs K ρ w ∧ scrT P l c cs K ρ w) := (rfl)
theorem scrX_p (P : Program) (l : List O) (d : Nat) (i : I) (r cs) (K) (ρ : Env) (w : World) : scrX P l 0 (some ⟨some d, none, i⟩) r cs K ρ w = rW i ρ w fun v => scrT P l r cs K (upd ρ d v) w := (rfl)
theorem scrX_q (P : Program) (l : List O) (d : Nat) (i : I) (r cs) (K) (ρ : Env) (w : World) : scrX P l 1 (some ⟨some d, none, i⟩) r cs K ρ w = qW P i ρ w fun v => scrT P l r cs K (upd ρ d v) w := (rfl)
theorem scrX_l (P : Program) (l : List O) (d : Nat) (i : I) (r cs) (K) (ρ : Env) (w : World) : scrX P l 2 (some ⟨some d, none, i⟩) r cs K ρ w = ∀ m, iW P i ρ (w.drewN m) fun v w' => allC cs w' ∧ scrT P l r cs K (upd ρ d v) w' := (rfl)
theorem scrX_l0 (P : Program) (l : List O) (i : I) (r cs) (K) (ρ : Env) (w : World) : scrX P l 2 (some ⟨none, none, i⟩) r cs K ρ w = ∀ m, iW P i ρ (w.drewN m) fun v w' => allC cs w' ∧ scrT P l r cs K ρ w' := (rfl)
theorem scrX_f (P : Program) (l : List O) (d : Nat) (k : TyK) (a : Operand) (r cs) (K) (ρ : Env) (w : World) : scrX P l 3 (some ⟨some d, none, .ld k a⟩) r cs K ρ w = ptrK (ev ρ a) fun p => ldK w k p fun v => scrT P l r ((k, p, v) :: cs) K (upd ρ d v) w := (rfl)
theorem scrW_nil (P : Program) (l : List O) (K) (ρ : Env) (w : World) : scrW P l [] K ρ w = ∀ m, K ρ (w.drewN m) := (rfl)
/-- An operation of a script. -/
def scrO (P : Program) (l : List O) (k : Nat) (o : Option O) (r : List (Nat × Nat)) (K : Env → World → Prop) (ρ : Env) (w : World) : Prop :=
  match o with
  | none => False
  | some o => match k with
    | 0 => gK (gv ρ o.g) (rW o.i ρ w fun v => scrW P l r K (updO ρ o.dst v) w) (scrW P l r K (updO ρ o.dst undef) w)
    | 1 => gK (gv ρ o.g) (qW P o.i ρ w fun v => scrW P l r K (updO ρ o.dst v) w) (scrW P l r K (updO ρ o.dst undef) w)
    | _ => ∀ m, gK (gv ρ o.g) (iW P o.i ρ (w.drewN m) fun v w' => scrW P l r K (updO ρ o.dst v) w') (scrW P l r K (updO ρ o.dst undef) (w.drewN m))
@[congr] theorem c_scrO (P : Program) (l : List O) (k : Nat) {o o' : Option O} (h : o = o') (r : List (Nat × Nat)) (K : Env → World → Prop) (ρ : Env) (w : World) : scrO P l k o r K ρ w = scrO P l k o' r K ρ w := by rw [h]
theorem scrW_cons (P : Program) (l : List O) (k i : Nat) (r) (K) (ρ : Env) (w : World) : scrW P l ((k, i) :: r) K ρ w = scrO P l k l[i]? r K ρ w := (rfl)
theorem scrO_p (P : Program) (l : List O) (d : Nat) (i : I) (r) (K) (ρ : Env) (w : World) : scrO P l 0 (some ⟨some d, none, i⟩) r K ρ w = rW i ρ w fun v => scrW P l r K (upd ρ d v) w := (rfl)
theorem scrO_q (P : Program) (l : List O) (d : Nat) (i : I) (r) (K) (ρ : Env) (w : World) : scrO P l 1 (some ⟨some d, none, i⟩) r K ρ w = qW P i ρ w fun v => scrW P l r K (upd ρ d v) w := (rfl)
theorem scrO_f (P : Program) (l : List O) (d : Nat) (i : I) (r) (K) (ρ : Env) (w : World) : scrO P l 2 (some ⟨some d, none, i⟩) r K ρ w = ∀ m, iW P i ρ (w.drewN m) fun v w' => scrW P l r K (upd ρ d v) w' := (rfl)
theorem scrO_f0 (P : Program) (l : List O) (i : I) (r) (K) (ρ : Env) (w : World) : scrO P l 2 (some ⟨none, none, i⟩) r K ρ w = ∀ m, iW P i ρ (w.drewN m) fun v w' => scrW P l r K ρ w' := (rfl)
theorem scrO_pg (P : Program) (l : List O) (d : Nat) (g) (i : I) (r) (K) (ρ : Env) (w : World) : scrO P l 0 (some ⟨some d, some g, i⟩) r K ρ w = gB (ρ g.1) g.2 (rW i ρ w fun v => scrW P l r K (upd ρ d v) w) (scrW P l r K (upd ρ d undef) w) .mk .mk := (rfl)
theorem scrO_qg (P : Program) (l : List O) (d : Nat) (g) (i : I) (r) (K) (ρ : Env) (w : World) : scrO P l 1 (some ⟨some d, some g, i⟩) r K ρ w = gB (ρ g.1) g.2 (qW P i ρ w fun v => scrW P l r K (upd ρ d v) w) (scrW P l r K (upd ρ d undef) w) .mk .mk := (rfl)
theorem W_skip (P : Program) (K) (ρ : Env) (w : World) : S.skip.W P K ρ w = K .normal ρ w := (rfl)
theorem W_ret (P : Program) (K) (ρ : Env) (w : World) : S.ret.W P K ρ w = K .ret ρ w := (rfl)
theorem W_exit (P : Program) (i : Nat) (K) (ρ : Env) (w : World) : (S.exit i).W P K ρ w = K (.exit i) ρ w := (rfl)
theorem W_seq (P : Program) (a b : S) (K) (ρ : Env) (w : World) : (S.seq a b).W P K ρ w = a.W P (seqK (b.W P K) K) ρ w := (rfl)
theorem W_join (P : Program) (a b : S) (K) (ρ : Env) (w : World) : (S.join a b).W P K ρ w = a.W P (seqK (b.W P K) K) ρ w := (rfl)
theorem W_cond (P : Program) (c : Operand) (a b : S) (K) (ρ : Env) (w : World) : (S.cond c a b).W P K ρ w = boolK (ev ρ c) fun t => if t = true then a.W P K ρ w else b.W P K ρ w := (rfl)
theorem W_block (P : Program) (i : Nat) (b : S) (K) (ρ : Env) (w : World) : (S.block i b).W P K ρ w = b.W P (blkK i K) ρ w := (rfl)
theorem W_loop (P : Program) (b : S) (K) (ρ : Env) (w : World) : (S.loop b).W P K ρ w = loopT P b K ρ w .mk := (rfl)
theorem W_joinT (P : Program) (a b : S) (K) (ρ : Env) (w : World) : (S.join a b).W P K ρ w = joinT P a b K ρ w .mk := (rfl)
theorem seqK_normal (N K) (ρ : Env) (w : World) : seqK N K .normal ρ w = N ρ w := (rfl)
theorem seqK_exit (N K) (i : Nat) (ρ : Env) (w : World) : seqK N K (.exit i) ρ w = K (.exit i) ρ w := (rfl)
theorem seqK_ret (N K) (ρ : Env) (w : World) : seqK N K .ret ρ w = K .ret ρ w := (rfl)
theorem blkK_normal (i K) (ρ : Env) (w : World) : blkK i K .normal ρ w = K .normal ρ w := (rfl)
theorem blkK_exit (i j K) (ρ : Env) (w : World) : blkK i K (.exit j) ρ w = if j = i then K .normal ρ w else K (.exit j) ρ w := (rfl)
theorem blkK_ret (i K) (ρ : Env) (w : World) : blkK i K .ret ρ w = K .ret ρ w := (rfl)
theorem retK_normal (P : Program) (n r c K) (ρ : Env) (w : World) : retK P ⟨n, r, c⟩ K .normal ρ w = resK P r ρ w fun vs => K (packV vs) w := (rfl)
theorem retK_ret (P : Program) (n r c K) (ρ : Env) (w : World) : retK P ⟨n, r, c⟩ K .ret ρ w = resK P r ρ w fun vs => K (packV vs) w := (rfl)
theorem resK_nil (P : Program) (ρ : Env) (w : World) (K) : resK P [] ρ w K = K [] := (rfl)
theorem resK_tmp (P : Program) (t r) (ρ : Env) (w : World) (K) : resK P (.inl t :: r) ρ w K = letK (ρ t) fun v => resK P r ρ w fun vs => K (v :: vs) := (rfl)
theorem resK_cell (P : Program) (k t r) (ρ : Env) (w : World) (K) : resK P (.inr (k, t) :: r) ρ w K = ptrK (ρ t) fun p => ldK w k p fun v => resK P r ρ w fun vs => K (v :: vs) := (rfl)
theorem packV_one (v : Value) : packV [v] = v := (rfl)
theorem packV_nil : packV [] = .tuple #[] := (rfl)
theorem packV_two (u v : Value) : packV [u, v] = .tuple #[u, v] := (rfl)
theorem packV_three (u v x : Value) : packV [u, v, x] = .tuple #[u, v, x] := (rfl)
theorem packV_four (u v x y : Value) : packV [u, v, x, y] = .tuple #[u, v, x, y] := (rfl)

/-! ### Operations -/
theorem opsW_nil (P : Program) (K) (ρ : Env) (w : World) : opsW P [] K ρ w = K ρ w := (rfl)
theorem opsW_cons (P : Program) (d : Nat) (i : I) (r : List O) (K) (ρ : Env) (w : World) : opsW P (⟨some d, none, i⟩ :: r) K ρ w = iW P i ρ w fun v w' => opsW P r K (upd ρ d v) w' := (rfl)
theorem opsW_cons0 (P : Program) (i : I) (r : List O) (K) (ρ : Env) (w : World) : opsW P (⟨none, none, i⟩ :: r) K ρ w = iW P i ρ w fun _ w' => opsW P r K ρ w' := (rfl)
theorem opsW_gd (P : Program) (d : Nat) (g : Nat × Bool) (i : I) (r : List O) (K) (ρ : Env) (w : World) : opsW P (⟨some d, some g, i⟩ :: r) K ρ w = gB (ρ g.1) g.2 (iW P i ρ w fun v w' => opsW P r K (upd ρ d v) w') (opsW P r K (upd ρ d undef) w) .mk .mk := (rfl)
theorem opsW_gd0 (P : Program) (g : Nat × Bool) (i : I) (r : List O) (K) (ρ : Env) (w : World) : opsW P (⟨none, some g, i⟩ :: r) K ρ w = gB (ρ g.1) g.2 (iW P i ρ w fun _ w' => opsW P r K ρ w') (opsW P r K ρ w) .mk .mk := (rfl)
theorem qopsW_nil (P : Program) (K) (ρ : Env) (w : World) : qopsW P w [] K ρ = K ρ := (rfl)
theorem qopsW_cons (P : Program) (d : Nat) (i : I) (r : List O) (K) (ρ : Env) (w : World) : qopsW P w (⟨some d, none, i⟩ :: r) K ρ = qW P i ρ w fun v => qopsW P w r K (upd ρ d v) := (rfl)
theorem qopsW_cons0 (P : Program) (i : I) (r : List O) (K) (ρ : Env) (w : World) : qopsW P w (⟨none, none, i⟩ :: r) K ρ = qW P i ρ w fun _ => qopsW P w r K ρ := (rfl)
theorem qopsW_gd (P : Program) (d : Nat) (g : Nat × Bool) (i : I) (r : List O) (K) (ρ : Env) (w : World) : qopsW P w (⟨some d, some g, i⟩ :: r) K ρ = gB (ρ g.1) g.2 (qW P i ρ w fun v => qopsW P w r K (upd ρ d v)) (qopsW P w r K (upd ρ d undef)) .mk .mk := (rfl)
theorem gv_some (ρ : Env) (d : Nat) (b : Bool) : gv ρ (some (d, b)) = match ρ d with | .bool c => c == b | _ => false := (rfl)
theorem gK_true (A B : Prop) : gK true A B = A := by simp [gK]
theorem gK_false (A B : Prop) : gK false A B = B := by simp [gK]
theorem gK_ite (b : Bool) (A B : Prop) : gK b A B = if b = true then A else B := (rfl)

theorem i_mv (P : Program) (x) (ρ : Env) (w : World) (K) : iW P (.mv x) ρ w K = letK (ev ρ x) fun v => K v w := (rfl)
theorem i_pick (P : Program) (c a b) (ρ : Env) (w : World) (K) : iW P (.pick c a b) ρ w K = boolK (ev ρ c) fun t => letK (if t then ev ρ a else ev ρ b) fun v => K v w := (rfl)
theorem i_ld (P : Program) (k a) (ρ : Env) (w : World) (K) : iW P (.ld k a) ρ w K = ptrK (ev ρ a) fun p => ldK w k p fun v => K v w := (rfl)
theorem i_nilc (P : Program) (x) (ρ : Env) (w : World) (K) : iW P (.nilc x) ρ w K = ptrK (ev ρ x) fun p => K (.pointer (some p)) w := (rfl)
theorem i_bin (P : Program) (op x y) (ρ : Env) (w : World) (K) : iW P (.bin op x y) ρ w K = binK op (ev ρ x) (ev ρ y) fun v => K v w := (rfl)
theorem i_eq (P : Program) (k n x y) (ρ : Env) (w : World) (K) : iW P (.eq k n x y) ρ w K = eqK k n (ev ρ x) (ev ρ y) fun v => K v w := (rfl)
theorem i_un (P : Program) (op x) (ρ : Env) (w : World) (K) : iW P (.un op x) ρ w K = unK op (ev ρ x) fun v => K v w := (rfl)
theorem i_cv (P : Program) (k x) (ρ : Env) (w : World) (K) : iW P (.cv k x) ρ w K = intK (ev ρ x) fun n => K (.int k (k.wrap n)) w := (rfl)
theorem i_fa (P : Program) (off x) (ρ : Env) (w : World) (K) : iW P (.fa off x) ρ w K = ptrK (ev ρ x) fun p => K (.pointer (some (p.add off))) w := (rfl)
theorem i_ia (P : Program) (sz x i) (ρ : Env) (w : World) (K) : iW P (.ia sz x i) ρ w K = slK (ev ρ x) fun A n _ => intK (ev ρ i) fun i => iaK sz A n i (fun v => K v w) .mk := by simp only [← iaK_eq]; rfl
theorem i_iaA (P : Program) (n sz x i) (ρ : Env) (w : World) (K) : iW P (.iaA n sz x i) ρ w K = ptrK (ev ρ x) fun p => intK (ev ρ i) fun i => 0 ≤ i ∧ i < n ∧ K (.pointer (some (p.add (i.toNat * sz)))) w := (rfl)
theorem i_ext (P : Program) (x i) (ρ : Env) (w : World) (K) : iW P (.ext x i) ρ w K = tupK (ev ρ x) i fun v => K v w := (rfl)
theorem i_len (P : Program) (x) (ρ : Env) (w : World) (K) : iW P (.len x) ρ w K = slK (ev ρ x) fun _ n _ => K (.int .i64 n) w := (rfl)
theorem i_cap (P : Program) (x) (ρ : Env) (w : World) (K) : iW P (.cap x) ρ w K = slK (ev ρ x) fun _ _ c => K (.int .i64 c) w := (rfl)
theorem i_bld (P : Program) (z pl parts) (ρ : Env) (w : World) (K) : iW P (.bld z pl parts) ρ w K = bldT z pl (parts.map fun p => (p.1, ev ρ p.2)) (fun v => K v w) .mk := (rfl)
theorem i_st (P : Program) (n a x) (ρ : Env) (w : World) (K) : iW P (.st n a x) ρ w K = ptrK (ev ρ a) fun p => stT n p (ev ρ x) w (fun w' => K undef w') .mk := (rfl)
theorem i_alloc (P : Program) (t z) (ρ : Env) (w : World) (K) : iW P (.alloc t z) ρ w K = alT z.cells t w (fun w' => K (.pointer (some ⟨w.heap.size, 0, none⟩)) w') .mk := (rfl)
theorem i_box (P : Program) (t x) (ρ : Env) (w : World) (K) : iW P (.box t x) ρ w K = letK (ev ρ x) fun v => alT v.cells t w (fun w' => K (.pointer (some ⟨w.heap.size, 0, none⟩)) w') .mk := (rfl)
theorem i_bsl (P : Program) (e sz len z parts) (ρ : Env) (w : World) (K) : iW P (.bsl e sz len z parts) ρ w K = bslT e sz len z (parts.map fun p => (p.1, ev ρ p.2)) w K .mk := (rfl)
theorem i_cpy (P : Program) (sz x y) (ρ : Env) (w : World) (K) : iW P (.cpy sz x y) ρ w K = cpyT sz (ev ρ x) (ev ρ y) w K .mk := (rfl)
theorem i_mks (P : Program) (e sz bytes z l c) (ρ : Env) (w : World) (K) : iW P (.mks e sz bytes z l c) ρ w K = intK (ev ρ l) fun l => intK (ev ρ c) fun c => 0 ≤ l ∧ l ≤ c ∧ (bytes : Int) * c ≤ 281474976710656 ∧ c ≤ 9223372036854775807 ∧
      alT (madeCells z (c.toNat * sz)) e w (fun w' => K (.slice (some ⟨w.heap.size, 0, none⟩) l.toNat c.toNat) w') .mk := (rfl)
theorem i_call (P : Program) (f args) (ρ : Env) (w : World) (K) : iW P (.call f args) ρ w K = callT P f (args.map (ev ρ)) w K .mk := (rfl)
theorem i_app (P : Program) (e sz bytes z x y) (ρ : Env) (w : World) (K) : iW P (.app e sz bytes z x y) ρ w K = appT e sz bytes z (ev ρ x) (ev ρ y) w K .mk := (rfl)
theorem i_slc (P : Program) (sz x lo hi mx) (ρ : Env) (w : World) (K) : iW P (.slc sz x lo hi mx) ρ w K = slK (ev ρ x) fun A n c => optK (lo.map (ev ρ)) fun lo => optK (hi.map (ev ρ)) fun hi => optK (mx.map (ev ρ)) fun mx =>
      0 ≤ lo.getD 0 ∧ lo.getD 0 ≤ hi.getD n ∧ hi.getD n ≤ mx.getD c ∧ mx.getD c ≤ c ∧ (mx.isSome → hi.isSome) ∧
        K (.slice (if (mx.getD c).toNat = (lo.getD 0).toNat then A else A.map (·.add ((lo.getD 0).toNat * sz))) ((hi.getD n).toNat - (lo.getD 0).toNat) ((mx.getD c).toNat - (lo.getD 0).toNat)) w := (rfl)
theorem i_sla (P : Program) (n sz x lo hi) (ρ : Env) (w : World) (K) : iW P (.sla n sz x lo hi) ρ w K = ptrK (ev ρ x) fun p => optK (lo.map (ev ρ)) fun lo => optK (hi.map (ev ρ)) fun hi =>
      0 ≤ lo.getD 0 ∧ lo.getD 0 ≤ hi.getD n ∧ hi.getD n ≤ n ∧
        K (.slice (some (if n = (lo.getD 0).toNat then p else p.add ((lo.getD 0).toNat * sz))) ((hi.getD n).toNat - (lo.getD 0).toNat) (n - (lo.getD 0).toNat)) w := (rfl)

theorem q_mv (P : Program) (x) (ρ : Env) (w : World) (K) : qW P (.mv x) ρ w K = letK (ev ρ x) K := (rfl)
theorem q_pick (P : Program) (c a b) (ρ : Env) (w : World) (K) : qW P (.pick c a b) ρ w K = boolK (ev ρ c) fun t => letK (if t then ev ρ a else ev ρ b) K := (rfl)
theorem q_ld (P : Program) (k a) (ρ : Env) (w : World) (K) : qW P (.ld k a) ρ w K = ptrK (ev ρ a) fun p => ldK w k p K := (rfl)
theorem q_nilc (P : Program) (x) (ρ : Env) (w : World) (K) : qW P (.nilc x) ρ w K = ptrK (ev ρ x) fun p => K (.pointer (some p)) := (rfl)
theorem q_bin (P : Program) (op x y) (ρ : Env) (w : World) (K) : qW P (.bin op x y) ρ w K = binK op (ev ρ x) (ev ρ y) K := (rfl)
theorem q_eq (P : Program) (k n x y) (ρ : Env) (w : World) (K) : qW P (.eq k n x y) ρ w K = eqK k n (ev ρ x) (ev ρ y) K := (rfl)
theorem q_un (P : Program) (op x) (ρ : Env) (w : World) (K) : qW P (.un op x) ρ w K = unK op (ev ρ x) K := (rfl)
theorem q_cv (P : Program) (k x) (ρ : Env) (w : World) (K) : qW P (.cv k x) ρ w K = intK (ev ρ x) fun n => K (.int k (k.wrap n)) := (rfl)
theorem q_fa (P : Program) (off x) (ρ : Env) (w : World) (K) : qW P (.fa off x) ρ w K = ptrK (ev ρ x) fun p => K (.pointer (some (p.add off))) := (rfl)
theorem q_ia (P : Program) (sz x i) (ρ : Env) (w : World) (K) : qW P (.ia sz x i) ρ w K = slK (ev ρ x) fun A n _ => intK (ev ρ i) fun i => iaK sz A n i K .mk := by simp only [← iaK_eq]; rfl
theorem q_iaA (P : Program) (n sz x i) (ρ : Env) (w : World) (K) : qW P (.iaA n sz x i) ρ w K = ptrK (ev ρ x) fun p => intK (ev ρ i) fun i => 0 ≤ i ∧ i < n ∧ K (.pointer (some (p.add (i.toNat * sz)))) := (rfl)
theorem q_ext (P : Program) (x i) (ρ : Env) (w : World) (K) : qW P (.ext x i) ρ w K = tupK (ev ρ x) i K := (rfl)
theorem q_len (P : Program) (x) (ρ : Env) (w : World) (K) : qW P (.len x) ρ w K = slK (ev ρ x) fun _ n _ => K (.int .i64 n) := (rfl)
theorem q_call (P : Program) (f args) (ρ : Env) (w : World) (K) : qW P (.call f args) ρ w K = qcallT P f (args.map (ev ρ)) w K .mk := (rfl)
theorem q_slc (P : Program) (sz x lo hi mx) (ρ : Env) (w : World) (K) : qW P (.slc sz x lo hi mx) ρ w K = slK (ev ρ x) fun A n c => optK (lo.map (ev ρ)) fun lo => optK (hi.map (ev ρ)) fun hi => optK (mx.map (ev ρ)) fun mx =>
      0 ≤ lo.getD 0 ∧ lo.getD 0 ≤ hi.getD n ∧ hi.getD n ≤ mx.getD c ∧ mx.getD c ≤ c ∧ (mx.isSome → hi.isSome) ∧
        K (.slice (if (mx.getD c).toNat = (lo.getD 0).toNat then A else A.map (·.add ((lo.getD 0).toNat * sz))) ((hi.getD n).toNat - (lo.getD 0).toNat) ((mx.getD c).toNat - (lo.getD 0).toNat)) := (rfl)

theorem q_ixs (P : Program) (x i) (ρ : Env) (w : World) (K) : qW P (.ixs x i) ρ w K = strK (ev ρ x) fun s => intK (ev ρ i) fun i => ixsK s i fun v => K v := (rfl)
theorem q_lens (P : Program) (x) (ρ : Env) (w : World) (K) : qW P (.lens x) ρ w K = strK (ev ρ x) fun s => K (.int .i64 s.size) := (rfl)
theorem q_bld (P : Program) (z pl parts) (ρ : Env) (w : World) (K) : qW P (.bld z pl parts) ρ w K = bldT z pl (parts.map fun p => (p.1, ev ρ p.2)) K .mk := (rfl)
theorem i_cvbs (P : Program) (x) (ρ : Env) (w : World) (K) : iW P (.cvbs x) ρ w K = cvbsT (ev ρ x) w (fun v => K v w) .mk := (rfl)
theorem i_lens (P : Program) (x) (ρ : Env) (w : World) (K) : iW P (.lens x) ρ w K = strK (ev ρ x) fun s => K (.int .i64 s.size) w := (rfl)
theorem i_ixs (P : Program) (x i) (ρ : Env) (w : World) (K) : iW P (.ixs x i) ρ w K = strK (ev ρ x) fun s => intK (ev ρ i) fun i => ixsK s i fun v => K v w := (rfl)
theorem i_sls (P : Program) (x lo hi) (ρ : Env) (w : World) (K) : iW P (.sls x lo hi) ρ w K = strK (ev ρ x) fun s => optK (lo.map (ev ρ)) fun lo => optK (hi.map (ev ρ)) fun hi =>
      0 ≤ lo.getD 0 ∧ lo.getD 0 ≤ hi.getD s.size ∧ hi.getD s.size ≤ s.size ∧ K (.string (s.extract (lo.getD 0).toNat (hi.getD s.size).toNat)) w := (rfl)
theorem i_mki (P : Program) (t x) (ρ : Env) (w : World) (K) : iW P (.mki t x) ρ w K = letK (ev ρ x) fun v => K (.iface t v) w := (rfl)
theorem i_cvss (P : Program) (x) (ρ : Env) (w : World) (K) : iW P (.cvss x) ρ w K = strK (ev ρ x) fun s => K (.string s) w := (rfl)
theorem i_apps (P : Program) (e bytes z x y) (ρ : Env) (w : World) (K) : iW P (.apps e bytes z x y) ρ w K = appsT e bytes z (ev ρ x) (ev ρ y) w K .mk := (rfl)
theorem i_appz (P : Program) (e sz bytes z x y) (ρ : Env) (w : World) (K) : iW P (.appz e sz bytes z x y) ρ w K = appzT e sz bytes z (ev ρ x) (ev ρ y) w K .mk := (rfl)
theorem i_bsl0 (P : Program) (e) (ρ : Env) (w : World) (K) : iW P (.bsl0 e) ρ w K = alT #[] e w (fun w' => K (.slice (some ⟨w.heap.size, 0, none⟩) 0 0) w') .mk := (rfl)
def aggK (v : Value) (K : Array Value → Prop) : Prop :=
  match v with
  | .agg cs => K cs
  | _ => False
@[congr] theorem c_aggK {v v' : Value} (h : v = v') (K : Array Value → Prop) : aggK v K = aggK v' K := by rw [h]
theorem aggK_val (cs : Array Value) (K : Array Value → Prop) : aggK (.agg cs) K = K cs := (rfl)
@[reducible] def ixaT (cs : Array Value) (i : Int) (w : World) (K : Value → World → Prop) (_ : Tok K) : Prop := ∃ v, cs[i.toNat]? = some v ∧ K v w
theorem i_ixa (P : Program) (n x i) (ρ : Env) (w : World) (K) : iW P (.ixa n x i) ρ w K = aggK (ev ρ x) fun cs => intK (ev ρ i) fun i => 0 ≤ i ∧ i < n ∧ ixaT cs i w K .mk := (rfl)
theorem i_rgs (P : Program) (x) (ρ : Env) (w : World) (K) : iW P (.rgs x) ρ w K = strK (ev ρ x) fun s => rgsT s w K .mk := (rfl)
theorem i_nxs (P : Program) (x) (ρ : Env) (w : World) (K) : iW P (.nxs x) ρ w K = ptrK (ev ρ x) fun p => nxsT p w K .mk := (rfl)
theorem i_cvid (P : Program) (x) (ρ : Env) (w : World) (K) : iW P (.cvid x) ρ w K = slK (ev ρ x) fun A n c => ∃ a, A = some a ∧ K (.slice A n c) (markW w a) := (rfl)
theorem i_no (P : Program) (ρ : Env) (w : World) (K) : iW P .no ρ w K = False := (rfl)
theorem i_min2 (P : Program) (x y) (ρ : Env) (w : World) (K) : iW P (.min2 x y) ρ w K = minK (ev ρ x) (ev ρ y) fun v => K v w := (rfl)
theorem i_max2 (P : Program) (x y) (ρ : Env) (w : World) (K) : iW P (.max2 x y) ρ w K = maxK (ev ρ x) (ev ρ y) fun v => K v w := (rfl)
theorem r_mv (x) (ρ : Env) (w : World) (K) : rW (.mv x) ρ w K = letK (ev ρ x) K := (rfl)
theorem r_bin (op x y) (ρ : Env) (w : World) (K) : rW (.bin op x y) ρ w K = binK op (ev ρ x) (ev ρ y) K := (rfl)
theorem r_un (op x) (ρ : Env) (w : World) (K) : rW (.un op x) ρ w K = unK op (ev ρ x) K := (rfl)
theorem r_cv (k x) (ρ : Env) (w : World) (K) : rW (.cv k x) ρ w K = intK (ev ρ x) fun n => K (.int k (k.wrap n)) := (rfl)
theorem r_fa (off x) (ρ : Env) (w : World) (K) : rW (.fa off x) ρ w K = ptrK (ev ρ x) fun p => K (.pointer (some (p.add off))) := (rfl)
theorem r_ia (sz x i) (ρ : Env) (w : World) (K) : rW (.ia sz x i) ρ w K = slK (ev ρ x) fun A n _ => intK (ev ρ i) fun i => iaK sz A n i K .mk := by simp only [← iaK_eq]; rfl
theorem r_iaA (n sz x i) (ρ : Env) (w : World) (K) : rW (.iaA n sz x i) ρ w K = ptrK (ev ρ x) fun p => intK (ev ρ i) fun i => 0 ≤ i ∧ i < n ∧ K (.pointer (some (p.add (i.toNat * sz)))) := (rfl)
theorem r_ext (x i) (ρ : Env) (w : World) (K) : rW (.ext x i) ρ w K = tupK (ev ρ x) i K := (rfl)
theorem r_len (x) (ρ : Env) (w : World) (K) : rW (.len x) ρ w K = slK (ev ρ x) fun _ n _ => K (.int .i64 n) := (rfl)
theorem r_lens (x) (ρ : Env) (w : World) (K) : rW (.lens x) ρ w K = strK (ev ρ x) fun s => K (.int .i64 s.size) := (rfl)
theorem r_nilc (x) (ρ : Env) (w : World) (K) : rW (.nilc x) ρ w K = ptrK (ev ρ x) fun p => K (.pointer (some p)) := (rfl)
theorem r_eq (k n x y) (ρ : Env) (w : World) (K) : rW (.eq k n x y) ρ w K = eqK k n (ev ρ x) (ev ρ y) K := (rfl)
theorem r_bld (z pl parts) (ρ : Env) (w : World) (K) : rW (.bld z pl parts) ρ w K = bldT z pl (parts.map fun p => (p.1, ev ρ p.2)) K .mk := (rfl)
theorem r_slc (sz x lo hi mx) (ρ : Env) (w : World) (K) : rW (.slc sz x lo hi mx) ρ w K = slK (ev ρ x) fun A n c => optK (lo.map (ev ρ)) fun lo => optK (hi.map (ev ρ)) fun hi => optK (mx.map (ev ρ)) fun mx =>
      0 ≤ lo.getD 0 ∧ lo.getD 0 ≤ hi.getD n ∧ hi.getD n ≤ mx.getD c ∧ mx.getD c ≤ c ∧ (mx.isSome → hi.isSome) ∧
        K (.slice (if (mx.getD c).toNat = (lo.getD 0).toNat then A else A.map (·.add ((lo.getD 0).toNat * sz))) ((hi.getD n).toNat - (lo.getD 0).toNat) ((mx.getD c).toNat - (lo.getD 0).toNat)) := (rfl)

/-! ### Values -/
theorem strK_val (s : ByteArray) (K) : strK (.string s) K = K s := (rfl)
theorem minK_val (k k' : IntKind) (a b : Int) (K) : minK (.int k a) (.int k' b) K = K (.int k (if b < a then b else a)) := (rfl)
theorem maxK_val (k k' : IntKind) (a b : Int) (K) : maxK (.int k a) (.int k' b) K = K (.int k (if a < b then b else a)) := (rfl)
theorem letK_val (v : Value) (K : Value → Prop) : letK v K = K v := (rfl)
theorem boolK_val (b : Bool) (K) : boolK (.bool b) K = K b := (rfl)
theorem intK_val (k : IntKind) (n : Int) (K) : intK (.int k n) K = K n := (rfl)
theorem ptrK_val (p : Addr) (K) : ptrK (.pointer (some p)) K = K p := (rfl)
theorem slK_val (A : Option Addr) (n c : Nat) (K) : slK (.slice A n c) K = K A n c := (rfl)
theorem tupK_20 (a b : Value) (K) : tupK (.tuple #[a, b]) 0 K = K a := (rfl)
theorem tupK_21 (a b : Value) (K) : tupK (.tuple #[a, b]) 1 K = K b := (rfl)
theorem tupK_30 (a b c : Value) (K) : tupK (.tuple #[a, b, c]) 0 K = K a := (rfl)
theorem tupK_31 (a b c : Value) (K) : tupK (.tuple #[a, b, c]) 1 K = K b := (rfl)
theorem tupK_32 (a b c : Value) (K) : tupK (.tuple #[a, b, c]) 2 K = K c := (rfl)
theorem tupK_40 (a b c d : Value) (K) : tupK (.tuple #[a, b, c, d]) 0 K = K a := (rfl)
theorem tupK_41 (a b c d : Value) (K) : tupK (.tuple #[a, b, c, d]) 1 K = K b := (rfl)
theorem tupK_42 (a b c d : Value) (K) : tupK (.tuple #[a, b, c, d]) 2 K = K c := (rfl)
theorem tupK_43 (a b c d : Value) (K) : tupK (.tuple #[a, b, c, d]) 3 K = K d := (rfl)
theorem optK_none (K) : optK none K = K none := (rfl)
theorem optK_some (k : IntKind) (n : Int) (K) : optK (some (.int k n)) K = K (some n) := (rfl)
theorem ld_int (w : World) (k p K) : ldK w (.int k) p K = ldC (.int k) (w.cell? p) K .mk := by
  apply propext
  constructor
  · rintro ⟨x, hx, h⟩; rw [hx]; exact ⟨rfl, h⟩
  · intro h; unfold ldC at h
    split at h <;> first | (cases h; done) | skip
    all_goals first | (rename_i hk hc; cases hk; exact ⟨_, hc.trans (by rw [h.1]), h.2⟩) | exact h.elim | (rename_i hk _; cases hk)
theorem ld_bool (w : World) (p K) : ldK w .bool p K = ldC .bool (w.cell? p) K .mk := by
  apply propext
  constructor
  · rintro ⟨x, hx, h⟩; rw [hx]; exact h
  · intro h; unfold ldC at h
    split at h <;> first | exact h.elim | (rename_i hk hc; cases hk; done) | (rename_i hk hc; exact ⟨_, hc, h⟩) | (rename_i hc; exact ⟨_, hc, h⟩)
theorem ld_string (w : World) (p K) : ldK w .string p K = ldC .string (w.cell? p) K .mk := by
  apply propext
  constructor
  · rintro ⟨x, hx, h⟩; rw [hx]; exact h
  · intro h; unfold ldC at h
    split at h <;> first | exact h.elim | (rename_i hk hc; cases hk; done) | (rename_i hk hc; exact ⟨_, hc, h⟩) | (rename_i hc; exact ⟨_, hc, h⟩)
theorem ld_pointer (w : World) (p K) : ldK w .pointer p K = ldC .pointer (w.cell? p) K .mk := by
  apply propext
  constructor
  · rintro ⟨x, hx, h⟩; rw [hx]; exact h
  · intro h; unfold ldC at h
    split at h <;> first | exact h.elim | (rename_i hk hc; cases hk; done) | (rename_i hk hc; exact ⟨_, hc, h⟩) | (rename_i hc; exact ⟨_, hc, h⟩)
theorem ld_slice (w : World) (p K) : ldK w .slice p K = ldC .slice (w.cell? p) K .mk := by
  apply propext
  constructor
  · rintro ⟨a, n, c, hx, h⟩; rw [hx]; exact h
  · intro h; unfold ldC at h
    split at h <;> first | exact h.elim | (rename_i hk hc; cases hk; done) | (rename_i hk hc; exact ⟨_, _, _, hc, h⟩) | (rename_i hc; exact ⟨_, _, _, hc, h⟩)
theorem ld_agg (w : World) (n p K) : ldK w (.agg n) p K = ldT w n p K .mk := (rfl)
theorem ld_other (w : World) (p K) : ldK w .other p K = ldC .other (w.cell? p) K .mk := by
  apply propext
  constructor
  · rintro ⟨x, hx, h⟩; rw [hx]; exact h
  · intro h; unfold ldC at h
    split at h <;> first | exact h.elim | (rename_i hk hc; cases hk; done) | (rename_i hk hc; exact ⟨_, hc, h⟩) | (rename_i hc; exact ⟨_, hc, h⟩)
theorem b_add (k : IntKind) (a b : Int) (K) : binK .add (.int k a) (.int k b) K = K (.int k (k.wrap (a + b))) := by simp [binK, ibin]
theorem b_sub (k : IntKind) (a b : Int) (K) : binK .sub (.int k a) (.int k b) K = K (.int k (k.wrap (a - b))) := by simp [binK, ibin]
theorem b_mul (k : IntKind) (a b : Int) (K) : binK .mul (.int k a) (.int k b) K = K (.int k (k.wrap (a * b))) := by simp [binK, ibin]
theorem b_quo (k : IntKind) (a b : Int) (K) : binK .quo (.int k a) (.int k b) K = (b ≠ 0 ∧ K (.int k (k.wrap (a.tdiv b)))) := by simp [binK, ibin]
theorem b_rem (k : IntKind) (a b : Int) (K) : binK .rem (.int k a) (.int k b) K = (b ≠ 0 ∧ K (.int k (a.tmod b))) := by simp [binK, ibin]
theorem b_and (k : IntKind) (a b : Int) (K) : binK .and (.int k a) (.int k b) K = K (.int k (bits .and k a b)) := by simp [binK, ibin]
theorem b_or (k : IntKind) (a b : Int) (K) : binK .or (.int k a) (.int k b) K = K (.int k (bits .or k a b)) := by simp [binK, ibin]
theorem b_xor (k : IntKind) (a b : Int) (K) : binK .xor (.int k a) (.int k b) K = K (.int k (bits .xor k a b)) := by simp [binK, ibin]
theorem b_andNot (k : IntKind) (a b : Int) (K) : binK .andNot (.int k a) (.int k b) K = K (.int k (bits .andNot k a b)) := by simp [binK, ibin]
theorem b_eql (k : IntKind) (a b : Int) (K) : binK .eql (.int k a) (.int k b) K = K (.bool (decide (a = b))) := by simp [binK, ibin]
theorem b_neq (k : IntKind) (a b : Int) (K) : binK .neq (.int k a) (.int k b) K = K (.bool (decide (a ≠ b))) := by simp only [binK, ibin]; simp
theorem b_lss (k : IntKind) (a b : Int) (K) : binK .lss (.int k a) (.int k b) K = K (.bool (decide (a < b))) := by simp [binK, ibin]
theorem b_leq (k : IntKind) (a b : Int) (K) : binK .leq (.int k a) (.int k b) K = K (.bool (decide (a ≤ b))) := by simp [binK, ibin]
theorem b_gtr (k : IntKind) (a b : Int) (K) : binK .gtr (.int k a) (.int k b) K = K (.bool (decide (b < a))) := by simp [binK, ibin]
theorem b_geq (k : IntKind) (a b : Int) (K) : binK .geq (.int k a) (.int k b) K = K (.bool (decide (b ≤ a))) := by simp [binK, ibin]
theorem b_shl (k k' : IntKind) (a b : Int) (K) : binK .shl (.int k a) (.int k' b) K = (0 ≤ b ∧ K (.int k (k.wrap (a * 2 ^ (min b.toNat k.bits))))) := (rfl)
theorem b_shr (k k' : IntKind) (a b : Int) (K) : binK .shr (.int k a) (.int k' b) K = (0 ≤ b ∧ K (.int k (a.fdiv (2 ^ (min b.toNat k.bits))))) := (rfl)
theorem b_seql (a b : ByteArray) (K) : binK .eql (.string a) (.string b) K = K (.bool (a.toList == b.toList)) := (rfl)
theorem b_sneq (a b : ByteArray) (K) : binK .neq (.string a) (.string b) K = K (.bool !(a.toList == b.toList)) := (rfl)
theorem b_sadd (a b : ByteArray) (K) : binK .add (.string a) (.string b) K = (a.size + b.size ≤ 9223372036854775807 ∧ K (.string (a ++ b))) := (rfl)
theorem e_bool (n a b : Bool) (K) : eqK .bool n (.bool a) (.bool b) K = K (.bool ((a == b) ^^ n)) := (rfl)
theorem e_ptr0 (n : Bool) (b : Option Addr) (K) : eqK .pointer n (.pointer none) (.pointer b) K = K (.bool (b.isNone ^^ n)) := (rfl)
theorem e_ptr1 (n : Bool) (p : Addr) (K) : eqK .pointer n (.pointer (some p)) (.pointer none) K = K (.bool n) := (rfl)
theorem u_not (b : Bool) (K) : unK .not (.bool b) K = K (.bool !b) := (rfl)
theorem u_neg (k : IntKind) (n : Int) (K) : unK .neg (.int k n) K = K (.int k (k.wrap (0 - n))) := (rfl)
theorem u_xor (k : IntKind) (n : Int) (K) : unK .xor (.int k n) K = K (.int k (bits .xor k (if k.signed then -1 else k.max) n)) := (rfl)
theorem bits_u8 : IntKind.bits .u8 = 8 := (rfl)
theorem bits_u32 : IntKind.bits .u32 = 32 := (rfl)
theorem bits_u64 : IntKind.bits .u64 = 64 := (rfl)
theorem bits_i64 : IntKind.bits .i64 = 64 := (rfl)
theorem env0_zero (a : Value) (l : List Value) : env0 (a :: l) 0 = a := (rfl)
theorem env0_succ (a : Value) (l : List Value) (t : Nat) : env0 (a :: l) (t + 1) = env0 l t := (rfl)

/-! ### Rules -/
/-- The end of a piece, shut. -/
def endK (N : Env → World → Prop) (ρ : Env) (w : World) : Prop := N ρ w
theorem letK_mono {v : Value} {K K' : Value → Prop} (h : letK v K) (hk : ∀ v, K v → K' v) : letK v K' := hk _ h
theorem boolK_mono {v : Value} {K K' : Bool → Prop} (h : boolK v K) (hk : ∀ v, K v → K' v) : boolK v K' := by obtain ⟨b, rfl, h⟩ := boolK_elim h; exact hk _ h
theorem intK_mono {v : Value} {K K' : Int → Prop} (h : intK v K) (hk : ∀ v, K v → K' v) : intK v K' := by obtain ⟨k, b, rfl, h⟩ := intK_elim h; exact hk _ h
theorem ptrK_mono {v : Value} {K K' : Addr → Prop} (h : ptrK v K) (hk : ∀ v, K v → K' v) : ptrK v K' := by obtain ⟨b, rfl, h⟩ := ptrK_elim h; exact hk _ h
theorem strK_mono {v : Value} {K K' : ByteArray → Prop} (h : strK v K) (hk : ∀ v, K v → K' v) : strK v K' := by obtain ⟨b, rfl, h⟩ := strK_elim h; exact hk _ h
theorem slK_mono {v : Value} {K K' : Option Addr → Nat → Nat → Prop} (h : slK v K) (hk : ∀ a n c, K a n c → K' a n c) : slK v K' := by obtain ⟨a, n, c, rfl, h⟩ := slK_elim h; exact hk _ _ _ h
theorem tupK_mono {v : Value} {i : Nat} {K K' : Value → Prop} (h : tupK v i K) (hk : ∀ v, K v → K' v) : tupK v i K' := by
  obtain ⟨vs, u, rfl, hu, h⟩ := tupK_elim h
  unfold tupK; simp only [hu]; exact hk _ h
theorem optK_mono {v : Option Value} {K K' : Option Int → Prop} (h : optK v K) (hk : ∀ v, K v → K' v) : optK v K' := by
  rcases optK_elim h with ⟨rfl, h⟩ | ⟨k, n, rfl, h⟩ <;> exact hk _ h
theorem ldK_mono {w : World} {k : TyK} {p : Addr} {K K' : Value → Prop} (h : ldK w k p K) (hk : ∀ v, K v → K' v) : ldK w k p K' := by
  cases k with
  | int k => obtain ⟨x, hx, h⟩ := h; exact ⟨x, hx, hk _ h⟩
  | bool => obtain ⟨x, hx, h⟩ := h; exact ⟨x, hx, hk _ h⟩
  | string => obtain ⟨x, hx, h⟩ := h; exact ⟨x, hx, hk _ h⟩
  | pointer => obtain ⟨x, hx, h⟩ := h; exact ⟨x, hx, hk _ h⟩
  | slice => obtain ⟨x, y, z, hx, h⟩ := h; exact ⟨x, y, z, hx, hk _ h⟩
  | agg n => obtain ⟨x, hx, hy, h⟩ := h; exact ⟨x, hx, hy, hk _ h⟩
  | other => obtain ⟨x, hx, h⟩ := h; exact ⟨x, hx, hk _ h⟩
theorem binK_mono {op : BinOp} {x y : Value} {K K' : Value → Prop} (h : binK op x y K) (hk : ∀ v, K v → K' v) : binK op x y K' := by
  unfold binK at *
  split at h
  · exact ⟨h.1, hk _ h.2⟩
  · exact ⟨h.1, hk _ h.2⟩
  · refine ⟨h.1, ?_⟩
    have h := h.2
    rename_i op _ _ _ _ _ _
    unfold ibin at *
    split at h <;> first | exact hk _ h | exact ⟨h.1, hk _ h.2⟩ | exact h.elim
  · exact hk _ h
  · exact hk _ h
  · exact ⟨h.1, hk _ h.2⟩
  · exact h.elim
theorem eqK_mono {k : TyK} {n : Bool} {x y : Value} {K K' : Value → Prop} (h : eqK k n x y K) (hk : ∀ v, K v → K' v) : eqK k n x y K' := by
  unfold eqK at *
  split at h <;> first | exact hk _ h | exact h.elim
theorem unK_mono {op : UnOp} {x : Value} {K K' : Value → Prop} (h : unK op x K) (hk : ∀ v, K v → K' v) : unK op x K' := by
  unfold unK at *
  split at h <;> first | exact hk _ h | exact h.elim
theorem rW_mono {i : I} {ρ : Env} {w : World} {K K' : Value → Prop} (h : rW i ρ w K) (hk : ∀ v, K v → K' v) : rW i ρ w K' := by
  cases i <;> first
    | exact h.elim
    | exact hk _ h
    | exact boolK_mono h fun _ h => hk _ h
    | exact ptrK_mono h fun _ h => ldK_mono h hk
    | exact ptrK_mono h fun _ h => hk _ h
    | exact binK_mono h hk
    | exact eqK_mono h hk
    | exact unK_mono h hk
    | exact intK_mono h fun _ h => hk _ h
    | exact slK_mono h fun _ _ _ h => hk _ h
    | exact strK_mono h fun _ h => hk _ h
    | exact tupK_mono h hk
    | exact slK_mono h fun _ _ _ h => optK_mono h fun _ h => optK_mono h fun _ h => optK_mono h fun _ h => ⟨h.1, h.2.1, h.2.2.1, h.2.2.2.1, h.2.2.2.2.1, hk _ h.2.2.2.2.2⟩
    | exact ptrK_mono h fun _ h => optK_mono h fun _ h => optK_mono h fun _ h => ⟨h.1, h.2.1, h.2.2.1, hk _ h.2.2.2⟩
    | exact strK_mono h fun _ h => optK_mono h fun _ h => optK_mono h fun _ h => ⟨h.1, h.2.1, h.2.2.1, hk _ h.2.2.2⟩
    | exact slK_mono h fun _ _ _ h => intK_mono h fun _ ⟨p, h1, h2, h3, h⟩ => ⟨p, h1, h2, h3, hk _ h⟩
    | exact ptrK_mono h fun _ h => intK_mono h fun _ ⟨h2, h3, h⟩ => ⟨h2, h3, hk _ h⟩
    | exact strK_mono h fun _ h => intK_mono h fun _ ⟨h2, h3, h⟩ => ⟨h2, h3, hk _ h⟩
    | exact slK_mono h fun _ _ _ ⟨xs, h1, h2, h⟩ => ⟨xs, h1, h2, hk _ h⟩
    | (obtain ⟨cs, h1, h⟩ := h; exact ⟨cs, h1, hk _ h⟩)
    | (simp only [rW] at *; split at h <;> first | exact hk _ h | exact h.elim)
    | (simp only [rW] at *; split at h <;> first | exact (intK_mono h fun _ ⟨h1, h2, v, h3, h⟩ => ⟨h1, h2, v, h3, hk _ h⟩) | exact h.elim)
theorem appC_mono {e sz bytes : Nat} {z : Array Value} {A : Option Addr} {n c m : Nat} {new : List Value} {w : World} {K K' : Value → World → Prop} (h : appC e sz bytes z A n c m new w K) (hk : ∀ v w', K v w' → K' v w') : appC e sz bytes z A n c m new w K' := by
  obtain ⟨h1, h2⟩ := h
  refine ⟨fun hc => ?_, fun hc => ?_⟩
  · rcases h1 hc with ⟨hm, h⟩ | ⟨b, o, ha, hb, hcc, hd, h⟩
    · exact .inl ⟨hm, hk _ _ h⟩
    · exact .inr ⟨b, o, ha, hb, hcc, hd, hk _ _ h⟩
  · obtain ⟨old, ha, hb, hcc, hd, he, h⟩ := h2 hc
    exact ⟨old, ha, hb, hcc, hd, he, fun c' x y => hk _ _ (h c' x y)⟩
theorem stK_mono {n : Nat} {p : Addr} {v : Value} {w : World} {K K' : World → Prop} (h : stK n p v w K) (hk : ∀ w', K w' → K' w') : stK n p v w K' := by
  obtain ⟨h1, h⟩ := h
  refine ⟨h1, ?_⟩
  rcases h with ⟨a, b, c, h⟩ | ⟨cs, a, b, c, d, e, h⟩
  · exact .inl ⟨a, b, c, hk _ h⟩
  · exact .inr ⟨cs, a, b, c, d, e, hk _ h⟩
def rdI : I → Bool
  | .st .. | .alloc .. | .box .. | .bsl .. | .mks .. | .app .. | .apps .. | .appz .. | .bsl0 .. | .cvid .. | .cpy .. | .call .. | .rgs .. | .nxs .. => false
  | _ => true
theorem iW_rd {P : Program} {i : I} (hi : rdI i = true) (ρ : Env) (w : World) (K : Value → World → Prop) : iW P i ρ w K = rW i ρ w fun v => K v w := by
  cases i <;> first | rfl | cases hi
theorem iW_mono {P : Program} {i : I} {ρ : Env} {w : World} {K K' : Value → World → Prop} (h : iW P i ρ w K) (hk : ∀ v w', K v w' → K' v w') : iW P i ρ w K' := by
  by_cases hi : rdI i = true
  · rw [iW_rd hi] at *; exact rW_mono h fun v h => hk v w h
  cases i <;> first
    | exact h.elim
    | exact absurd rfl hi
    | exact hk _ _ h
    | exact callK_mono h hk
    | exact ptrK_mono h fun _ h => stK_mono h fun _ h => hk _ _ h
    | exact slK_mono h fun _ _ _ h => slK_mono h fun _ _ _ ⟨new, h1, h2, h⟩ => ⟨new, h1, h2, appC_mono h hk⟩
    | exact slK_mono h fun _ _ _ h => strK_mono h fun _ h => appC_mono h hk
    | exact slK_mono h fun _ _ _ h => intK_mono h fun _ ⟨h1, h2, h3, h4, h⟩ => ⟨h1, h2, h3, h4, appC_mono h hk⟩
    | exact slK_mono h fun _ _ _ ⟨a, h1, h⟩ => ⟨a, h1, hk _ _ h⟩
    | exact intK_mono h fun _ h => intK_mono h fun _ ⟨h1, h2, h3, h4, h⟩ => ⟨h1, h2, h3, h4, hk _ _ h⟩
    | (obtain ⟨cs, h1, h⟩ := h; exact ⟨cs, h1, hk _ _ h⟩)
    | exact strK_mono h fun _ h => hk _ _ h
    | exact ptrK_mono h fun _ ⟨h0, s, pos, h1, h2, h3⟩ => ⟨h0, s, pos, h1, fun g => hk _ _ (h2 g), fun g => hk _ _ (h3 g)⟩
    | (simp only [iW] at *; split at h <;> first
        | (obtain ⟨new, h1, h2, h3⟩ := h; exact ⟨new, h1, fun h0 => (let ⟨p, b, o, a1, a2, a3, a4, a5, a6, a7⟩ := h2 h0; ⟨p, b, o, a1, a2, a3, a4, a5, a6, hk _ _ a7⟩), fun h0 => hk _ _ (h3 h0)⟩)
        | exact h.elim)
theorem qW_rd {P : Program} {i : I} (hi : ∀ f a, i ≠ .call f a) (ρ : Env) (w : World) (K : Value → Prop) : qW P i ρ w K = rW i ρ w K := by
  cases i <;> first | rfl | exact absurd rfl (hi _ _)
theorem qW_mono {P : Program} {i : I} {ρ : Env} {w : World} {K K' : Value → Prop} (h : qW P i ρ w K) (hk : ∀ v, K v → K' v) : qW P i ρ w K' := by
  by_cases hi : ∀ f a, i ≠ .call f a
  · rw [qW_rd hi] at *; exact rW_mono h hk
  · have ⟨f, a, e⟩ : ∃ f a, i = .call f a := by
      apply Classical.byContradiction; intro hn; exact hi fun f a e => hn ⟨f, a, e⟩
    subst e
    obtain ⟨v, h1, h⟩ := h; exact ⟨v, h1, hk _ h⟩

/-- The slots that a piece writes. -/
def wrL (l : List O) (t : Nat) : Bool := l.any fun o => o.dst == some t
def wr : S → Nat → Bool
  | .ops l, t | .draw _ l, t | .drawS _ l, t | .drawT _ l, t => wrL l t
  | .seq a b, t | .join a b, t | .cond _ a b, t => wr a t || wr b t
  | .block _ b, t | .loop b, t => wr b t
  | _, _ => false
theorem updO_out {ρ : Env} {d : Option Nat} {v : Value} {t : Nat} (h : (d == some t) = false) : updO ρ d v t = ρ t := by
  cases d with
  | none => rfl
  | some d => have : d ≠ t := by simpa using h
              simp [updO, upd, Ne.symm this]
theorem opsW_frame {P : Program} : ∀ (l : List O) {K K' : Env → World → Prop} {ρ : Env} {w : World}, opsW P l K ρ w → (∀ ρ' w', (∀ t, wrL l t = false → ρ' t = ρ t) → K ρ' w' → K' ρ' w') → opsW P l K' ρ w
  | [], K, K', ρ, w, h, hk => hk _ _ (fun _ _ => rfl) h
  | o :: r, K, K', ρ, w, h, hk => by
    have go : ∀ v w', opsW P r K (updO ρ o.dst v) w' → opsW P r K' (updO ρ o.dst v) w' := fun v w' h => opsW_frame r h fun ρ' w'' hf hK => hk _ _ (fun t ht => by
      simp only [wrL, List.any_cons, Bool.or_eq_false_iff] at ht
      rw [hf t ht.2, updO_out ht.1]) hK
    simp only [opsW, gK] at *
    split at h
    · rename_i hg; rw [if_pos hg]; exact iW_mono h go
    · rename_i hg; rw [if_neg hg]; exact go _ _ h
theorem qopsW_frame {P : Program} {w : World} : ∀ (l : List O) {K K' : Env → Prop} {ρ : Env}, qopsW P w l K ρ → (∀ ρ', (∀ t, wrL l t = false → ρ' t = ρ t) → K ρ' → K' ρ') → qopsW P w l K' ρ
  | [], K, K', ρ, h, hk => hk _ (fun _ _ => rfl) h
  | o :: r, K, K', ρ, h, hk => by
    have go : ∀ v, qopsW P w r K (updO ρ o.dst v) → qopsW P w r K' (updO ρ o.dst v) := fun v h => qopsW_frame r h fun ρ' hf hK => hk _ (fun t ht => by
      simp only [wrL, List.any_cons, Bool.or_eq_false_iff] at ht
      rw [hf t ht.2, updO_out ht.1]) hK
    simp only [qopsW, gK] at *
    split at h
    · rename_i hg; rw [if_pos hg]; exact qW_mono h go
    · rename_i hg; rw [if_neg hg]; exact go _ h
theorem scrW_frame {P : Program} {l : List O} : ∀ (s : List (Nat × Nat)) {K K' : Env → World → Prop} {ρ : Env} {w : World}, scrW P l s K ρ w → (∀ ρ' w', (∀ t, wrL l t = false → ρ' t = ρ t) → K ρ' w' → K' ρ' w') → scrW P l s K' ρ w
  | [], K, K', ρ, w, h, hk => fun m => hk _ _ (fun _ _ => rfl) (h m)
  | (k, i) :: r, K, K', ρ, w, h, hk => by
    simp only [scrW] at *
    split at h
    · exact h.elim
    · rename_i o ho
      have ho' : ∀ t, wrL l t = false → (o.dst == some t) = false := fun t ht => by
        simp only [wrL, List.any_eq_false] at ht
        have := ht o (List.mem_of_getElem? ho)
        simpa using this
      have go : ∀ v w', scrW P l r K (updO ρ o.dst v) w' → scrW P l r K' (updO ρ o.dst v) w' := fun v w' h => scrW_frame r h fun ρ' w'' hf hK => hk _ _ (fun t ht => by
        rw [hf t ht, updO_out (ho' t ht)]) hK
      split at h
      · simp only [gK] at *
        split at h
        · rename_i hg; rw [if_pos hg]; exact rW_mono h fun v h => go v w h
        · rename_i hg; rw [if_neg hg]; exact go _ _ h
      · simp only [gK] at *
        split at h
        · rename_i hg; rw [if_pos hg]; exact qW_mono h fun v h => go v w h
        · rename_i hg; rw [if_neg hg]; exact go _ _ h
      · intro m
        have h := h m
        simp only [gK] at *
        split at h
        · rename_i hg; rw [if_pos hg]; exact iW_mono h go
        · rename_i hg; rw [if_neg hg]; exact go _ _ h
theorem fltK_mono {i : I} {ρ : Env} {w : World} {K K' : TyK → Addr → Value → Prop} (h : fltK i ρ w K) (hk : ∀ k p v, K k p v → K' k p v) : fltK i ρ w K' := by
  unfold fltK at *
  split at h
  · exact ptrK_mono h fun p h => ldK_mono h fun v h => hk _ _ _ h
  · exact h.elim
theorem scrT_frame {P : Program} {l : List O} : ∀ (t : Scr) {cs : List (TyK × Addr × Value)} {K K' : Env → World → Prop} {ρ : Env} {w : World}, scrT P l t cs K ρ w → (∀ ρ' w', (∀ t, wrL l t = false → ρ' t = ρ t) → K ρ' w' → K' ρ' w') → scrT P l t cs K' ρ w
  | .nil, cs, K, K', ρ, w, h, hk => fun m => hk _ _ (fun _ _ => rfl) (h m)
  | .st k i r, cs, K, K', ρ, w, h, hk => by
    simp only [scrT] at *
    split at h
    · exact h.elim
    · rename_i o ho
      have ho' : ∀ t, wrL l t = false → (o.dst == some t) = false := fun t ht => by
        simp only [wrL, List.any_eq_false] at ht
        have := ht o (List.mem_of_getElem? ho)
        simpa using this
      have go : ∀ cs v w', scrT P l r cs K (updO ρ o.dst v) w' → scrT P l r cs K' (updO ρ o.dst v) w' := fun cs v w' h => scrT_frame r h fun ρ' w'' hf hK => hk _ _ (fun t ht => by
        rw [hf t ht, updO_out (ho' t ht)]) hK
      split at h
      · simp only [gK] at *
        split at h
        · rename_i hg; rw [if_pos hg]; exact rW_mono h fun v h => go cs v w h
        · rename_i hg; rw [if_neg hg]; exact go _ _ _ h
      · simp only [gK] at *
        split at h
        · rename_i hg; rw [if_pos hg]; exact qW_mono h fun v h => go cs v w h
        · rename_i hg; rw [if_neg hg]; exact go _ _ _ h
      · simp only [gK] at *
        split at h
        · rename_i hg; rw [if_pos hg]; exact fltK_mono h fun k p v h => go _ v w h
        · rename_i hg; rw [if_neg hg]; exact go _ _ _ h
  | .one i r, cs, K, K', ρ, w, h, hk => by
    simp only [scrT] at *
    split at h
    · exact h.elim
    · rename_i o ho
      have ho' : ∀ t, wrL l t = false → (o.dst == some t) = false := fun t ht => by
        simp only [wrL, List.any_eq_false] at ht
        have := ht o (List.mem_of_getElem? ho)
        simpa using this
      have go : ∀ cs v w', scrT P l r cs K (updO ρ o.dst v) w' → scrT P l r cs K' (updO ρ o.dst v) w' := fun cs v w' h => scrT_frame r h fun ρ' w'' hf hK => hk _ _ (fun t ht => by
        rw [hf t ht, updO_out (ho' t ht)]) hK
      intro m
      have h := h m
      simp only [gK] at *
      split at h
      · rename_i hg; rw [if_pos hg]; exact iW_mono h fun v w' h => ⟨h.1, go _ _ _ h.2⟩
      · rename_i hg; rw [if_neg hg]; exact ⟨h.1, go _ _ _ h.2⟩
  | .more i r c, cs, K, K', ρ, w, h, hk => by
    simp only [scrT] at *
    refine ⟨?_, scrT_frame c h.2 hk⟩
    have h := h.1
    split at h
    · exact h.elim
    · rename_i o ho
      have ho' : ∀ t, wrL l t = false → (o.dst == some t) = false := fun t ht => by
        simp only [wrL, List.any_eq_false] at ht
        have := ht o (List.mem_of_getElem? ho)
        simpa using this
      have go : ∀ cs v w', scrT P l r cs K (updO ρ o.dst v) w' → scrT P l r cs K' (updO ρ o.dst v) w' := fun cs v w' h => scrT_frame r h fun ρ' w'' hf hK => hk _ _ (fun t ht => by
        rw [hf t ht, updO_out (ho' t ht)]) hK
      intro m
      have h := h m
      simp only [gK] at *
      split at h
      · rename_i hg; rw [if_pos hg]; exact iW_mono h fun v w' h => ⟨h.1, go _ _ _ h.2⟩
      · rename_i hg; rw [if_neg hg]; exact ⟨h.1, go _ _ _ h.2⟩
  | .cov c, cs, K, K', ρ, w, h, hk => scrT_frame c h hk
theorem seqK_all {N N' : Env → World → Prop} {K K' : Exit → Env → World → Prop} {e : Exit} {ρ : Env} {w : World} (h : seqK N K e ρ w) (hn : N ρ w → N' ρ w) (hk : K e ρ w → K' e ρ w) : seqK N' K' e ρ w := by
  cases e <;> first | exact hn h | exact hk h
theorem W_frame {P : Program} : ∀ (s : S) {K K' : Exit → Env → World → Prop} {ρ : Env} {w : World}, s.W P K ρ w → (∀ e ρ' w', (∀ t, wr s t = false → ρ' t = ρ t) → K e ρ' w' → K' e ρ' w') → s.W P K' ρ w := by
  intro s
  induction s with
  | ops l => intro K K' ρ w h hk; exact opsW_frame l h fun ρ' w' hf hK => hk _ _ _ hf hK
  | draw n l =>
    intro K K' ρ w h hk
    refine qopsW_frame (l.take n) h fun ρ' hf hK m => opsW_frame (l.drop n) (hK m) fun ρ'' w' hf' hK => hk _ _ _ (fun t ht => ?_) hK
    have hall : ∀ x ∈ l, (x.dst == some t) = false := fun x hx => by
      have : wrL l t = false := ht
      simp only [wrL, List.any_eq_false] at this
      simpa using this x hx
    have h1 : wrL (l.take n) t = false := by simp only [wrL, List.any_eq_false]; intro x hx; simpa using hall x (List.mem_of_mem_take hx)
    have h2 : wrL (l.drop n) t = false := by simp only [wrL, List.any_eq_false]; intro x hx; simpa using hall x (List.mem_of_mem_drop hx)
    rw [hf' t h2, hf t h1]
  | drawS s l => intro K K' ρ w h hk; exact scrW_frame s h fun ρ' w' hf hK => hk _ _ _ hf hK
  | drawT t l => intro K K' ρ w h hk; exact scrT_frame t h fun ρ' w' hf hK => hk _ _ _ hf hK
  | skip => intro K K' ρ w h hk; exact hk _ _ _ (fun _ _ => rfl) h
  | ret => intro K K' ρ w h hk; exact hk _ _ _ (fun _ _ => rfl) h
  | exit id => intro K K' ρ w h hk; exact hk _ _ _ (fun _ _ => rfl) h
  | seq a b iha ihb =>
    intro K K' ρ w h hk
    refine iha h fun e ρ' w' hf h' => seqK_all h' (fun h'' => ihb h'' fun e ρ'' w'' hf' hK => hk _ _ _ (fun t ht => ?_) hK) (fun h'' => hk _ _ _ (fun t ht => ?_) h'')
    · simp only [wr, Bool.or_eq_false_iff] at ht; rw [hf' t ht.2, hf t ht.1]
    · simp only [wr, Bool.or_eq_false_iff] at ht; rw [hf t ht.1]
  | join a b iha ihb =>
    intro K K' ρ w h hk
    refine iha h fun e ρ' w' hf h' => seqK_all h' (fun h'' => ihb h'' fun e ρ'' w'' hf' hK => hk _ _ _ (fun t ht => ?_) hK) (fun h'' => hk _ _ _ (fun t ht => ?_) h'')
    · simp only [wr, Bool.or_eq_false_iff] at ht; rw [hf' t ht.2, hf t ht.1]
    · simp only [wr, Bool.or_eq_false_iff] at ht; rw [hf t ht.1]
  | cond c a b iha ihb =>
    intro K K' ρ w h hk
    refine boolK_mono h fun t h => ?_
    split at h
    · rename_i ht; rw [if_pos ht]; exact iha h fun e ρ' w' hf hK => hk _ _ _ (fun t ht => hf t (by simp only [wr, Bool.or_eq_false_iff] at ht; exact ht.1)) hK
    · rename_i ht; rw [if_neg ht]; exact ihb h fun e ρ' w' hf hK => hk _ _ _ (fun t ht => hf t (by simp only [wr, Bool.or_eq_false_iff] at ht; exact ht.2)) hK
  | block id b ih =>
    intro K K' ρ w h hk
    refine ih h fun e ρ' w' hf h' => ?_
    have hk' : ∀ e, K e ρ' w' → K' e ρ' w' := fun e => hk e ρ' w' hf
    cases e with
    | exit j =>
      by_cases hj : j = id
      · have e1 : ∀ K : Exit → Env → World → Prop, blkK id K (.exit j) ρ' w' = K .normal ρ' w' := fun K => if_pos hj
        rw [e1] at *; exact hk' _ h'
      · have e1 : ∀ K : Exit → Env → World → Prop, blkK id K (.exit j) ρ' w' = K (.exit j) ρ' w' := fun K => if_neg hj
        rw [e1] at *; exact hk' _ h'
    | _ => exact hk' _ h'
  | loop b ih =>
    intro K K' ρ w h hk
    obtain ⟨m, h⟩ := h
    refine ⟨m, ?_⟩
    have key : ∀ m ρ1 w1, (∀ t, wr b t = false → ρ1 t = ρ t) → loopN (b.W P) K m ρ1 w1 → loopN (b.W P) K' m ρ1 w1 := by
      intro m
      induction m with
      | zero => intro ρ1 w1 _ h; exact h
      | succ m ihm =>
        intro ρ1 w1 hf1 h
        refine ih h fun e ρ' w' hf h' => seqK_all h' (fun h'' => ihm _ _ (fun t ht => by rw [hf t ht, hf1 t ht]) h'') (fun h'' => hk _ _ _ (fun t ht => by rw [hf t ht, hf1 t ht]) h'')
    exact key m ρ w (fun _ _ => rfl) h

/-- A piece, shut, with the slots that it leaves alone. -/
theorem join_cut {P : Program} {a b : S} {K : Exit → Env → World → Prop} {ρ : Env} {w : World} (J : Env → World → Prop)
    (h1 : ∀ N : Env → World → Prop, (∀ ρ' w', J ρ' w' → endK N ρ' w') → a.W P (seqK (endK N) K) ρ w) (h2 : ∀ ρ' w', (∀ t, wr a t = false → ρ' t = ρ t) → J ρ' w' → b.W P K ρ' w') : (S.join a b).W P K ρ w := by
  have := h1 J (fun ρ' w' h => h)
  exact W_frame a this fun e ρ' w' hf h => seqK_all h (fun h => h2 ρ' w' hf h) (fun h => h)

/-- A loop by a relation with a measure; the slots that its body leaves alone are as they were. -/
theorem loop_inv {P : Program} {b : S} {K : Exit → Env → World → Prop} {ρ : Env} {w : World} (I : Nat → Env → World → Prop) (m : Nat) (h0 : I m ρ w)
    (hstep : ∀ m ρ' w', (∀ t, wr b t = false → ρ' t = ρ t) → I m ρ' w' → ∀ N : Env → World → Prop, (∀ m' ρ'' w'', m' < m → I m' ρ'' w'' → endK N ρ'' w'') → b.W P (seqK (endK N) K) ρ' w') : loopT P b K ρ w .mk := by
  have key : ∀ n m ρ' w', m < n → (∀ t, wr b t = false → ρ' t = ρ t) → I m ρ' w' → loopN (b.W P) K n ρ' w' := by
    intro n
    induction n with
    | zero => intro m ρ' w' h; omega
    | succ n ih =>
      intro m ρ' w' h hf hI
      have := hstep m ρ' w' hf hI (fun ρ'' w'' => ∃ m', m' < m ∧ I m' ρ'' w'') (fun m' ρ'' w'' hlt hI' => ⟨m', hlt, hI'⟩)
      exact W_frame b this fun e ρ'' w'' hf' h' => seqK_all h' (fun ⟨m', hlt, hI'⟩ => ih m' ρ'' w'' (by omega) (fun t ht => by rw [hf' t ht, hf t ht]) hI') (fun h => h)
  exact ⟨m + 1, key (m + 1) m ρ w (by omega) (fun _ _ => rfl) h0⟩

end Go.Proofs.YtcflokckfjkdpaaDoor.Eng
