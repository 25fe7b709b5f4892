/- The engine: instructions over environments of slots, what they ask, and that the model's run meets it. -/
import Derived.Test.YtcflokckfjkdpaaDoorEngA3
import Derived.Laws.BytesArg
import Derived.WalkKit
import Derived.KernelRfl
import Derived.Deep.Draws
import Derived.Laws.Slices
import Derived.Laws.MakeOwn
import Derived.Laws.Append
import Derived.Laws.AppendOwn
import Derived.Laws.IdiomCopy
set_option linter.unusedVariables false
set_option linter.unusedSimpArgs false
namespace Go.Proofs.YtcflokckfjkdpaaDoor.Eng
open Go Go.RowKit

abbrev Env := Nat → Value
def upd (ρ : Env) (d : Nat) (v : Value) : Env := fun t => if t = d then v else ρ t
def updO (ρ : Env) : Option Nat → Value → Env
  | some d, v => upd ρ d v
  | none, _ => ρ
theorem upd_at (ρ : Env) (d : Nat) (v : Value) (t : Nat) : upd ρ d v t = if t = d then v else ρ t := rfl
def ev (ρ : Env) : Operand → Value
  | .tmp t => ρ t
  | .const v => v
  | .global g => .pointer (some ⟨g, 0, none⟩)
  | .func f => .func (.func f) #[] #[]
theorem ev_tmp (ρ : Env) (t : Nat) : ev ρ (.tmp t) = ρ t := rfl
theorem ev_const (ρ : Env) (v : Value) : ev ρ (.const v) = v := rfl
theorem ev_global (ρ : Env) (g : Nat) : ev ρ (.global g) = .pointer (some ⟨g, 0, none⟩) := rfl

/-- Kinds of types that a load tells. -/
inductive TyK where
  | bool | int (k : IntKind) | string | pointer | slice | agg (n : Nat) | other
  deriving DecidableEq
def tyk (P : Program) (t : TypeId) : Option TyK :=
  match P.underlying t with
  | some .bool => some .bool
  | some (.int k) => some (.int k)
  | some .string => some .string
  | some (.pointer _) => some .pointer
  | some (.slice _) => some .slice
  | some (.struct _) | some (.array _ _) => some (.agg (P.cellsOf t))
  | some _ => some .other
  | none => none

/-- Cells from an address on. -/
def cellsAt (w : World) (p : Addr) (cs : List Value) : Prop := ∀ j v, cs[j]? = some v → w.cell? (p.add j) = some v

/-! ### What the instructions ask -/
def letK (v : Value) (K : Value → Prop) : Prop := K v
def boolK (v : Value) (K : Bool → Prop) : Prop := match v with | .bool b => K b | _ => False
def intK (v : Value) (K : Int → Prop) : Prop := match v with | .int _ n => K n | _ => False
def ptrK (v : Value) (K : Addr → Prop) : Prop := match v with | .pointer (some p) => K p | _ => False
def strK (v : Value) (K : ByteArray → Prop) : Prop := match v with | .string s => K s | _ => False
def slK (v : Value) (K : Option Addr → Nat → Nat → Prop) : Prop := match v with | .slice a n c => K a n c | _ => False
def tupK (v : Value) (i : Nat) (K : Value → Prop) : Prop := match v with | .tuple vs => (match vs[i]? with | some u => K u | none => False) | _ => False

def ldK (w : World) (k : TyK) (p : Addr) (K : Value → Prop) : Prop :=
  match k with
  | .int k => ∃ x, w.cell? p = some (.int k x) ∧ K (.int k x)
  | .bool => ∃ b, w.cell? p = some (.bool b) ∧ K (.bool b)
  | .string => ∃ s, w.cell? p = some (.string s) ∧ K (.string s)
  | .pointer => ∃ q, w.cell? p = some (.pointer q) ∧ K (.pointer q)
  | .slice => ∃ a n c, w.cell? p = some (.slice a n c) ∧ K (.slice a n c)
  | .agg n => ∃ cs : List Value, cs.length = n ∧ cellsAt w p cs ∧ K (.agg cs.toArray)
  | .other => ∃ v, w.cell? p = some v ∧ K v

/-- Whole numbers. -/
def ibin (op : BinOp) (k : IntKind) (a b : Int) (K : Value → Prop) : Prop :=
  match op with
  | .add => K (.int k (k.wrap (a + b)))
  | .sub => K (.int k (k.wrap (a - b)))
  | .mul => K (.int k (k.wrap (a * b)))
  | .quo => b ≠ 0 ∧ K (.int k (k.wrap (a.tdiv b)))
  | .rem => b ≠ 0 ∧ K (.int k (a.tmod b))
  | .and => K (.int k (bits .and k a b))
  | .or => K (.int k (bits .or k a b))
  | .xor => K (.int k (bits .xor k a b))
  | .andNot => K (.int k (bits .andNot k a b))
  | .eql => K (.bool (decide (a = b)))
  | .neq => K (.bool (decide (a ≠ b)))
  | .lss => K (.bool (decide (a < b)))
  | .leq => K (.bool (decide (a ≤ b)))
  | .gtr => K (.bool (decide (b < a)))
  | .geq => K (.bool (decide (b ≤ a)))
  | _ => False
def binK (op : BinOp) (x y : Value) (K : Value → Prop) : Prop :=
  match op, x, y with
  | .shl, .int k a, .int _ b => 0 ≤ b ∧ K (.int k (k.wrap (a * 2 ^ (min b.toNat k.bits))))
  | .shr, .int k a, .int _ b => 0 ≤ b ∧ K (.int k (a.fdiv (2 ^ (min b.toNat k.bits))))
  | op, .int k a, .int k' b => k = k' ∧ ibin op k a b K
  | .eql, .string a, .string b => K (.bool (a.toList == b.toList))
  | .neq, .string a, .string b => K (.bool !(a.toList == b.toList))
  | .add, .string a, .string b => a.size + b.size ≤ 9223372036854775807 ∧ K (.string (a ++ b))
  | _, _, _ => False
/-- '==' and '!=' of pointers and slices with nil, of bools: by the type. -/
def eqK (k : TyK) (neg : Bool) (x y : Value) (K : Value → Prop) : Prop :=
  match k, x, y with
  | .bool, .bool a, .bool b => K (.bool ((a == b) ^^ neg))
  | .pointer, .pointer none, .pointer b => K (.bool (b.isNone ^^ neg))
  | .pointer, .pointer (some _), .pointer none => K (.bool neg)
  | .slice, .slice none _ _, .slice b _ _ => K (.bool (b.isNone ^^ neg))
  | .slice, .slice (some _) _ _, .slice none _ _ => K (.bool neg)
  | _, _, _ => False
def unK (op : UnOp) (x : Value) (K : Value → Prop) : Prop :=
  match op, x with
  | .not, .bool b => K (.bool !b)
  | .neg, .int k n => K (.int k (k.wrap (0 - n)))
  | .xor, .int k n => K (.int k (bits .xor k (if k.signed then -1 else k.max) n))
  | _, _ => False

def optK (v : Option Value) (K : Option Int → Prop) : Prop :=
  match v with
  | none => K none
  | some (.int _ n) => K (some n)
  | _ => False

/-- Instructions. -/
inductive I where
  | mv (x : Operand)
  | pick (c a b : Operand)
  | ld (k : TyK) (a : Operand)
  | st (n : Nat) (a x : Operand)
  | nilc (x : Operand)
  | bin (op : BinOp) (x y : Operand)
  | eq (k : TyK) (neg : Bool) (x y : Operand)
  | un (op : UnOp) (x : Operand)
  | cv (k : IntKind) (x : Operand)
  | slc (sz : Nat) (x : Operand) (lo hi mx : Option Operand)
  | sla (n sz : Nat) (x : Operand) (lo hi : Option Operand)
  | fa (off : Nat) (x : Operand)
  | ia (sz : Nat) (x i : Operand)
  | iaA (n sz : Nat) (x i : Operand)
  | ixa (n : Nat) (x i : Operand)
  | ext (x : Operand) (i : Nat)
  | alloc (t : Nat) (z : Value)
  | box (t : Nat) (x : Operand)
  | bld (z : Array Value) (pl : List (Nat × Nat)) (parts : List (Nat × Operand))
  | bsl (e sz len : Nat) (z : Array Value) (parts : List (Nat × Operand))
  | mks (e sz bytes : Nat) (z : Array Value) (l c : Operand)
  | call (f : Nat) (args : List Operand)
  | len (x : Operand)
  | cap (x : Operand)
  | app (e sz bytes : Nat) (z : Array Value) (x y : Operand)
  | cpy (sz : Nat) (x y : Operand)
  | min2 (x y : Operand)
  | max2 (x y : Operand)
  | no
  | cvbs (x : Operand)
  | cvid (x : Operand)
  | lens (x : Operand)
  | ixs (x i : Operand)
  | sls (x : Operand) (lo hi : Option Operand)
  | bsl0 (e : Nat)
  | appz (e sz bytes : Nat) (z : Array Value) (x y : Operand)
  | apps (e bytes : Nat) (z : Array Value) (x y : Operand)
  | mki (t : Nat) (x : Operand)
  | cvss (x : Operand)
  | rgs (x : Operand)
  | nxs (x : Operand)

/-- A call that returns. -/
def callK (P : Program) (f : FuncId) (args : List Value) (w : World) (K : Value → World → Prop) : Prop :=
  Calls P f args.toArray w fun e w' => ∃ v, e = .returned v ∧ K v w'
theorem callK_mono {P : Program} {f : FuncId} {args : List Value} {w : World} {K K' : Value → World → Prop} (h : callK P f args w K) (hk : ∀ v w', K v w' → K' v w') : callK P f args w K' :=
  Calls.mono h fun e w' ⟨v, hv, hK⟩ => ⟨v, hv, hk v w' hK⟩
/-- A call that leaves the world alone, but for draws. -/
def qcallK (P : Program) (f : FuncId) (args : List Value) (w : World) (K : Value → Prop) : Prop :=
  ∃ v, (∀ n, callK P f args (w.drewN n) fun v' w' => v' = v ∧ ∃ m, w' = w.drewN m) ∧ K v

def fillL (pl : List (Nat × Nat)) (z : Array Value) (parts : List (Nat × Value)) : Option (Array Value) := Instr.fill (fun i => pl[i]?) z parts
def fillS (sz : Nat) (z : Array Value) (parts : List (Nat × Value)) : Option (Array Value) := Instr.fill (fun i => some (i * sz, sz)) z parts

def lowOf (lo : Option Int) : Int := lo.getD 0

/-- Append of cells: there is room, or a new row. -/
def appC (e sz bytes : Nat) (z : Array Value) (A : Option Addr) (n c m : Nat) (new : List Value) (w : World) (K : Value → World → Prop) : Prop :=
  (n + m ≤ c → (m = 0 ∧ K (.slice A n c) w) ∨ (∃ b o, A = some ⟨b, o, none⟩ ∧ (∀ v ∈ new, v.oneCell' = true) ∧
    (∀ j, j < new.length → (w.cell? ⟨b, o + n * sz + j, none⟩).isSome = true) ∧ (∀ j, j < new.length → w.frozen? ⟨b, o + n * sz + j, none⟩ = false) ∧
    K (.slice A (n + m) c) (w.setCells b (o + n * sz) new))) ∧
  (c < n + m → ∃ old : List Value, old.length = n * sz ∧ (0 < n → ∃ p, A = some p ∧ cellsAt w p old) ∧ (n + m) * bytes ≤ 140737488355328 ∧ n + m ≤ 9223372036854775807 ∧ 0 < bytes ∧
    ∀ c', n + m ≤ c' → c' ≤ 9223372036854775807 → K (.slice (some ⟨w.heap.size, 0, none⟩) (n + m) c') (w.drew.alloc (.cells ((old ++ new).toArray ++ Builtin.zeroCells z (c' - (n + m))) e)))
def appK (e sz bytes : Nat) (z : Array Value) (x y : Value) (w : World) (K : Value → World → Prop) : Prop :=
  slK x fun A n c => slK y fun B m _ => ∃ new : List Value, new.length = m * sz ∧ (0 < m → ∃ p, B = some p ∧ cellsAt w p new) ∧ appC e sz bytes z A n c m new w K
def bytesL (s : ByteArray) : List Value := s.data.toList.map fun b => .int .u8 b.toNat
def appsK (e bytes : Nat) (z : Array Value) (x y : Value) (w : World) (K : Value → World → Prop) : Prop :=
  slK x fun A n c => strK y fun s => appC e 1 bytes z A n c s.size (bytesL s) w K
def appzK (e sz bytes : Nat) (z : Array Value) (x y : Value) (w : World) (K : Value → World → Prop) : Prop :=
  slK x fun A n c => intK y fun l => 0 ≤ l ∧ l * bytes ≤ 281474976710656 ∧ l ≤ 9223372036854775807 ∧ z.size = sz ∧ appC e sz bytes z A n c l.toNat (Builtin.zeroCells z l.toNat).toList w K
/-- The mark of a conversion of a literal. -/
def markW (w : World) (a : Addr) : World := match w.shape? a.block with | some (_, n) => w.freeze { block := a.block, off := n } 1 | none => w

def rW (i : I) (ρ : Env) (w : World) (K : Value → Prop) : Prop :=
  match i with
  | .mv x => K (ev ρ x)
  | .pick c a b => boolK (ev ρ c) fun t => letK (if t then ev ρ a else ev ρ b) K
  | .ld k a => ptrK (ev ρ a) fun p => ldK w k p K
  | .nilc x => ptrK (ev ρ x) fun p => K (.pointer (some p))
  | .bin op x y => binK op (ev ρ x) (ev ρ y) K
  | .eq k neg x y => eqK k neg (ev ρ x) (ev ρ y) K
  | .un op x => unK op (ev ρ x) K
  | .cv k x => intK (ev ρ x) fun n => K (.int k (k.wrap n))
  | .slc sz x lo hi mx => slK (ev ρ x) fun A n c => optK (lo.map (ev ρ)) fun lo => optK (hi.map (ev ρ)) fun hi => optK (mx.map (ev ρ)) fun mx =>
      0 ≤ lo.getD 0 ∧ lo.getD 0 ≤ hi.getD n ∧ hi.getD n ≤ mx.getD c ∧ mx.getD c ≤ c ∧ (mx.isSome → hi.isSome) ∧
        K (.slice (if (mx.getD c).toNat = (lo.getD 0).toNat then A else A.map (·.add ((lo.getD 0).toNat * sz))) ((hi.getD n).toNat - (lo.getD 0).toNat) ((mx.getD c).toNat - (lo.getD 0).toNat))
  | .sla n sz x lo hi => ptrK (ev ρ x) fun p => optK (lo.map (ev ρ)) fun lo => optK (hi.map (ev ρ)) fun hi =>
      0 ≤ lo.getD 0 ∧ lo.getD 0 ≤ hi.getD n ∧ hi.getD n ≤ n ∧
        K (.slice (some (if n = (lo.getD 0).toNat then p else p.add ((lo.getD 0).toNat * sz))) ((hi.getD n).toNat - (lo.getD 0).toNat) (n - (lo.getD 0).toNat))
  | .fa off x => ptrK (ev ρ x) fun p => K (.pointer (some (p.add off)))
  | .ia sz x i => slK (ev ρ x) fun A n _ => intK (ev ρ i) fun i => ∃ p, A = some p ∧ 0 ≤ i ∧ i < n ∧ K (.pointer (some (p.add (i.toNat * sz))))
  | .iaA n sz x i => ptrK (ev ρ x) fun p => intK (ev ρ i) fun i => 0 ≤ i ∧ i < n ∧ K (.pointer (some (p.add (i.toNat * sz))))
  | .ixa n x i => (match ev ρ x with
    | .agg cs => intK (ev ρ i) fun i => 0 ≤ i ∧ i < n ∧ ∃ v, cs[i.toNat]? = some v ∧ K v
    | _ => False)
  | .ext x i => tupK (ev ρ x) i K
  | .bld z pl parts => ∃ cs, fillL pl z (parts.map fun p => (p.1, ev ρ p.2)) = some cs ∧ K (.agg cs)
  | .len x => slK (ev ρ x) fun _ n _ => K (.int .i64 n)
  | .cap x => slK (ev ρ x) fun _ _ c => K (.int .i64 c)
  | .min2 x y => (match ev ρ x, ev ρ y with
    | .int k a, .int _ b => K (.int k (if b < a then b else a))
    | _, _ => False)
  | .max2 x y => (match ev ρ x, ev ρ y with
    | .int k a, .int _ b => K (.int k (if a < b then b else a))
    | _, _ => False)
  | .cvbs x => slK (ev ρ x) fun A n _ => ∃ xs : List Int, xs.length = n ∧ (0 < n → ∃ p, A = some p ∧ cellsAt w p (xs.map (Value.int .u8))) ∧ K (.string (strOfNums xs))
  | .lens x => strK (ev ρ x) fun s => K (.int .i64 s.size)
  | .ixs x i => strK (ev ρ x) fun s => intK (ev ρ i) fun i => ∃ h : i.toNat < s.size, 0 ≤ i ∧ K (.int .u8 ((s[i.toNat]'h).toNat : Int))
  | .sls x lo hi => strK (ev ρ x) fun s => optK (lo.map (ev ρ)) fun lo => optK (hi.map (ev ρ)) fun hi =>
      0 ≤ lo.getD 0 ∧ lo.getD 0 ≤ hi.getD s.size ∧ hi.getD s.size ≤ s.size ∧ K (.string (s.extract (lo.getD 0).toNat (hi.getD s.size).toNat))
  | .mki t x => letK (ev ρ x) fun v => K (.iface t v)
  | .cvss x => strK (ev ρ x) fun s => K (.string s)
  | _ => False

/-- The next rune of a string that is ranged over. -/
def nxsK (p : Addr) (w : World) (K : Value → World → Prop) : Prop :=
  p.off = 0 ∧ ∃ s pos, w.heap[p.block]? = some (.stringIter s pos) ∧
    (pos < s.size → K (.tuple #[.bool true, .int .i64 pos, .int .i32 (Utf8.decode s pos).1]) { w with heap := w.heap.setIfInBounds p.block (.stringIter s (pos + (Utf8.decode s pos).2)) }) ∧
    (s.size ≤ pos → K (.tuple #[.bool false]) w)
/-- Stores. -/
def stK (n : Nat) (p : Addr) (v : Value) (w : World) (K : World → Prop) : Prop :=
  v.cells.size = n ∧ ((v.oneCell' = true ∧ (w.cell? p).isSome = true ∧ w.frozen? p = false ∧ K (w.setCell p v)) ∨
   (∃ cs, v = .agg cs ∧ p.spot = none ∧ (∀ u ∈ cs.toList, u.oneCell' = true) ∧ (∀ j, j < cs.size → (w.cell? ⟨p.block, p.off + j, none⟩).isSome = true) ∧ (∀ j, j < cs.size → w.frozen? ⟨p.block, p.off + j, none⟩ = false) ∧ K (w.setCells p.block p.off cs.toList)))

def iW (P : Program) (i : I) (ρ : Env) (w : World) (K : Value → World → Prop) : Prop :=
  match i with
  | .st n a x => ptrK (ev ρ a) fun p => stK n p (ev ρ x) w fun w' => K undef w'
  | .alloc t z => K (.pointer (some ⟨w.heap.size, 0, none⟩)) (w.alloc (.cells z.cells t))
  | .box t x => K (.pointer (some ⟨w.heap.size, 0, none⟩)) (w.alloc (.cells (ev ρ x).cells t))
  | .bsl e sz len z parts => ∃ cs, fillS sz ((Array.range (len * sz)).map (z[· % z.size]!)) (parts.map fun p => (p.1, ev ρ p.2)) = some cs ∧ K (.slice (some ⟨w.heap.size, 0, none⟩) len len) (w.alloc (.cells cs e))
  | .mks e sz bytes z l c => intK (ev ρ l) fun l => intK (ev ρ c) fun c => 0 ≤ l ∧ l ≤ c ∧ (bytes : Int) * c ≤ 281474976710656 ∧ c ≤ 9223372036854775807 ∧
      K (.slice (some ⟨w.heap.size, 0, none⟩) l.toNat c.toNat) (w.alloc (.cells (madeCells z (c.toNat * sz)) e))
  | .call f args => callK P f (args.map (ev ρ)) w K
  | .app e sz bytes z x y => appK e sz bytes z (ev ρ x) (ev ρ y) w K
  | .apps e bytes z x y => appsK e bytes z (ev ρ x) (ev ρ y) w K
  | .appz e sz bytes z x y => appzK e sz bytes z (ev ρ x) (ev ρ y) w K
  | .bsl0 e => K (.slice (some ⟨w.heap.size, 0, none⟩) 0 0) (w.alloc (.cells #[] e))
  | .cvid x => slK (ev ρ x) fun A n c => ∃ a, A = some a ∧ K (.slice A n c) (markW w a)
  | .cpy sz x y => (match ev ρ x, ev ρ y with
    | .slice A n _, .slice B m _ => ∃ new : List Value, new.length = (Nat.min m n) * sz ∧ (0 < Nat.min m n → ∃ p b o, B = some p ∧ cellsAt w p new ∧ A = some ⟨b, o, none⟩ ∧ (∀ v ∈ new, v.oneCell' = true) ∧
        (∀ j, j < new.length → (w.cell? ⟨b, o + j, none⟩).isSome = true) ∧ (∀ j, j < new.length → w.frozen? ⟨b, o + j, none⟩ = false) ∧ K (.int .i64 ((Nat.min m n : Nat) : Int)) (w.setCells b o new)) ∧
        (Nat.min m n = 0 → K (.int .i64 0) w)
    | _, _ => False)
  | .rgs x => strK (ev ρ x) fun s => K (.pointer (some ⟨w.heap.size, 0, none⟩)) (w.alloc (.stringIter s 0))
  | .nxs x => ptrK (ev ρ x) fun p => nxsK p w K
  | i => rW i ρ w fun v => K v w

/-- One instruction, in a region that draws: it only reads, or calls what only reads. -/
def qW (P : Program) (i : I) (ρ : Env) (w : World) (K : Value → Prop) : Prop :=
  match i with
  | .call f args => qcallK P f (args.map (ev ρ)) w K
  | i => rW i ρ w K

end Go.Proofs.YtcflokckfjkdpaaDoor.Eng
