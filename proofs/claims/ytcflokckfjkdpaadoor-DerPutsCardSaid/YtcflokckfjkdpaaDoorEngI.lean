/- The engine: what changes and what stays; slices of the program's own, and 'append'. -/
import Derived.Test.YtcflokckfjkdpaaDoorEngH
set_option linter.unusedVariables false
set_option linter.unusedSimpArgs false
namespace Go.Proofs.YtcflokckfjkdpaaDoor.Eng
open Go Go.RowKit

/-- Of the blocks that were there only those of P may have changed. -/
structure Fr (w w' : World) (P : Nat → Prop) : Prop where
  base : Below 0 w w'
  block : ∀ b, b < w.heap.size → ¬ P b → w'.heap[b]? = w.heap[b]?
def nob : Nat → Prop := fun _ => False
theorem Fr.refl (w : World) (P : Nat → Prop) : Fr w w P := ⟨Below.refl _ _, fun _ _ _ => rfl⟩
theorem Fr.size {w w' : World} {P : Nat → Prop} (h : Fr w w' P) : w.heap.size ≤ w'.heap.size := h.base.size
theorem Fr.mono {w w' : World} {P Q : Nat → Prop} (h : Fr w w' P) (hq : ∀ b, b < w.heap.size → P b → Q b) : Fr w w' Q := ⟨h.base, fun b hb hn => h.block b hb fun hp => hn (hq b hb hp)⟩
theorem Fr.trans {a b c : World} {P Q : Nat → Prop} (h : Fr a b P) (k : Fr b c Q) (hq : ∀ x, x < a.heap.size → Q x → P x) : Fr a c P :=
  ⟨h.base.trans k.base, fun x hx hn => (k.block x (Nat.lt_of_lt_of_le hx h.size) fun hq' => hn (hq x hx hq')).trans (h.block x hx hn)⟩
theorem Fr.below {w w' : World} {P : Nat → Prop} {B : Nat} (h : Fr w w' P) (hB : B ≤ w.heap.size) (hp : ∀ b, P b → B ≤ b) : Below B w w' :=
  ⟨h.base.os, h.base.tape, h.base.output, h.base.size, fun b hb => h.block b (by omega) fun hP => by have := hp b hP; omega⟩
theorem fr_of {w w' : World} {B : Nat} (h : Below B w w') (hB : B = w.heap.size) : Fr w w' nob := by
  subst hB; exact ⟨h.mono (Nat.zero_le _), fun b hb _ => h.block b hb⟩
theorem Fr.drewN (w : World) (n : Nat) (P : Nat → Prop) : Fr w (w.drewN n) P := ⟨below_drewN' (Below.refl _ _) n, fun _ _ _ => rfl⟩
theorem New.fr {w w' : World} {l : List Value} (h : New w w' l) (P : Nat → Prop) : Fr w w' P := by
  have := h.below (Nat.le_refl _) (Below.refl _ w)
  exact ⟨this.mono (Nat.zero_le _), fun b hb _ => this.block b hb⟩
theorem Put.fr {w w' : World} {b : Nat} {l : List Value} (h : Put w w' b l) : Fr w w' (fun x => x = b) :=
  ⟨h.below (Nat.zero_le _) (Below.refl _ w), fun x _ hx => h.other x hx⟩
theorem Blk.fr {w w' : World} {P : Nat → Prop} {b : Nat} {cs : List Value} (h : Blk w b cs) (f : Fr w w' P) (hb : ¬ P b) : Blk w' b cs := h.heap (f.block b h.lt hb)
theorem cell_heap {w w' : World} {p : Addr} (h : w'.heap[p.block]? = w.heap[p.block]?) : w'.cell? p = w.cell? p := by
  unfold World.cell?; rw [h]
theorem add_block (p : Addr) (j : Nat) : (p.add j).block = p.block := by unfold Addr.add; split <;> rfl
theorem cellsAt.fr {w w' : World} {P : Nat → Prop} {p : Addr} {vs : List Value} (h : cellsAt w p vs) (f : Fr w w' P) (hp : p.block < w.heap.size) (hb : ¬ P p.block) : cellsAt w' p vs := by
  intro j v hj
  exact (cell_heap (w := w) (w' := w') (p := p.add j) (by rw [add_block]; exact f.block _ hp hb)).trans (h j v hj)
/-- The slice lies in none of the blocks. -/
def offA (A : Option Addr) (P : Nat → Prop) : Prop := ∀ p, A = some p → ¬ P p.block
theorem Rd.fr {w w' : World} {P : Nat → Prop} {A : Option Addr} {vs : List Value} (h : Rd w A vs) (f : Fr w w' P) (ho : vs = [] ∨ offA A P) : Rd w' A vs := by
  rcases h with h | ⟨p, e, hp, hc⟩
  · exact .inl h
  · rcases ho with ho | ho
    · exact .inl ho
    · exact .inr ⟨p, e, Nat.lt_of_lt_of_le hp f.size, hc.fr f hp (ho p e)⟩

/-! ### Slices of the program's own -/
def blkOf : Value → Option Nat
  | .slice (some p) _ _ => some p.block
  | .pointer (some p) => some p.block
  | _ => none
def Sl (k : IntKind) (w : World) (v : Value) (l : List Int) : Prop :=
  (l = [] ∧ v = .slice none 0 0) ∨ ∃ b pad, v = .slice (some ⟨b, 0, none⟩) l.length (l.length + pad.length) ∧ Blk w b (nums k (l ++ pad))
theorem Sl.nil (k : IntKind) (w : World) : Sl k w (.slice none 0 0) [] := .inl ⟨rfl, rfl⟩
theorem Sl.lt {k : IntKind} {w : World} {v : Value} {l : List Int} (h : Sl k w v l) {b : Nat} (hb : blkOf v = some b) : b < w.heap.size := by
  rcases h with ⟨_, rfl⟩ | ⟨b', pad, rfl, hB⟩
  · cases hb
  · cases hb; exact hB.lt
theorem Sl.fr {k : IntKind} {w w' : World} {P : Nat → Prop} {v : Value} {l : List Int} (h : Sl k w v l) (f : Fr w w' P) (ho : ∀ b, blkOf v = some b → ¬ P b) : Sl k w' v l := by
  rcases h with h | ⟨b, pad, rfl, hB⟩
  · exact .inl h
  · exact .inr ⟨b, pad, rfl, hB.fr f (ho b rfl)⟩
/-- As a slice that is read. -/
theorem Sl.read {k : IntKind} {w : World} {v : Value} {l : List Int} (h : Sl k w v l) : ∃ A c, v = .slice A l.length c ∧ l.length ≤ c ∧ Rd w A (nums k l) ∧ (∀ p, A = some p → blkOf v = some p.block) := by
  rcases h with ⟨rfl, rfl⟩ | ⟨b, pad, rfl, hB⟩
  · exact ⟨none, 0, rfl, Nat.le_refl _, .inl rfl, fun p e => by cases e⟩
  · refine ⟨_, _, rfl, by omega, hB.rd 0 (n := l.length) ?_, fun p e => by cases e; rfl⟩
    rw [List.drop_zero, nums_take]; simp
theorem Sl.rdOf {k : IntKind} {w : World} {A : Option Addr} {n c : Nat} {l : List Int} (h : Sl k w (.slice A n c) l) : Rd w A (nums k l) := by
  obtain ⟨A', c', e, _, hr, _⟩ := h.read
  cases e; exact hr
/-- New, or none. -/
def freshV (w : World) (v : Value) : Prop := ∀ b, blkOf v = some b → w.heap.size ≤ b
theorem zeroCells_list (v : Value) (n : Nat) : (Builtin.zeroCells #[v] n).toList = List.replicate n v := by
  apply List.ext_getElem
  · simp [Builtin.zeroCells]
  · intro i h1 h2
    simp [Builtin.zeroCells, Nat.mod_one]
theorem madeCells_list (v : Value) (n : Nat) : (madeCells #[v] n).toList = List.replicate n v := by
  apply List.ext_getElem
  · simp [madeCells]
  · intro i h1 h2
    simp [madeCells, Nat.mod_one]
theorem Rd.cells {w : World} {A : Option Addr} {vs : List Value} (h : Rd w A vs) : 0 < vs.length → ∃ p, A = some p ∧ cellsAt w p vs := fun h0 => by
  obtain ⟨p, e, _, hc⟩ := h.get h0; exact ⟨p, e, hc⟩

/-- What 'append' makes: the row, longer; in its own block or in a new one. -/
structure Apd (k : IntKind) (w : World) (x : Value) (l : List Int) (v : Value) (w' : World) : Prop where
  sl : Sl k w' v l
  where_ : blkOf v = blkOf x ∨ freshV w v
  fr : Fr w w' (fun b => blkOf x = some b)
theorem appC_num {k : IntKind} {e bytes : Nat} {w : World} {A : Option Addr} {n c m : Nat} {l l' : List Int} {K : Value → World → Prop} (hx : Sl k w (.slice A n c) l) (hm : l'.length = m)
    (hs : (l.length + l'.length) * bytes ≤ 140737488355328) (hb : 0 < bytes) (hK : ∀ v w', Apd k w (.slice A n c) (l ++ l') v w' → K v w') : appC e 1 bytes #[.int k 0] A n c m (nums k l') w K := by
  have hn : n = l.length := by
    rcases hx with ⟨rfl, e⟩ | ⟨b, pad, e, _⟩ <;> cases e <;> rfl
  subst hn
  subst hm
  constructor
  · intro hc
    by_cases h0 : l'.length = 0
    · refine .inl ⟨h0, hK _ _ ⟨?_, .inl rfl, Fr.refl _ _⟩⟩
      rw [List.length_eq_zero_iff.1 h0, List.append_nil]; exact hx
    · rcases hx with ⟨rfl, e⟩ | ⟨b, pad, e, hB⟩
      · cases e; exact absurd hc (by simp only [List.length_nil]; omega)
      · cases e
        have hlp : l'.length ≤ pad.length := by omega
        refine .inr ⟨b, 0, rfl, nums_one _ _, fun j hj => ?_, fun j hj => hB.frozen _, hK _ _ ?_⟩
        · rw [nums_length] at hj
          exact hB.isSome (by rw [nums_length, List.length_append]; omega)
        · have hp := put_cells hB (0 + l.length * 1) (nums k l') (by simp only [nums_length, List.length_append]; omega)
          have e : (nums k (l ++ pad)).take (0 + l.length * 1) ++ nums k l' ++ (nums k (l ++ pad)).drop (0 + l.length * 1 + (nums k l').length) = nums k ((l ++ l') ++ pad.drop l'.length) := by
            rw [nums_length, nums_take, nums_drop, nums_append k (l ++ l'), nums_append k l l']
            have e1 : (l ++ pad).take (0 + l.length * 1) = l := by simp
            have e2 : (l ++ pad).drop (0 + l.length * 1 + l'.length) = pad.drop l'.length := by rw [List.drop_append]; simp
            rw [e1, e2]
          rw [e] at hp
          refine ⟨.inr ⟨b, pad.drop l'.length, ?_, hp.blk⟩, .inl rfl, ?_⟩
          · simp only [List.length_append, List.length_drop]
            congr 1; omega
          · exact hp.fr.mono fun x _ hx => by subst hx; rfl
  · intro hc
    refine ⟨nums k l, by simp [nums_length], fun h0 => ?_, by omega, ?_, hb, fun c' h1 h2 => hK _ _ ?_⟩
    · rcases hx with ⟨rfl, e⟩ | ⟨b, pad, e, hB⟩
      · simp at h0
      · cases e
        have : Rd w (some ⟨b, 0, none⟩) (nums k l) := hB.rd 0 (n := l.length) (by rw [List.drop_zero, nums_take]; simp)
        exact this.cells (by rw [nums_length]; exact h0)
    · have : l.length + l'.length ≤ (l.length + l'.length) * bytes := Nat.le_mul_of_pos_right _ hb
      omega
    · have hz : ((nums k l ++ nums k l').toArray ++ Builtin.zeroCells #[.int k 0] (c' - (l.length + l'.length))).toList = nums k ((l ++ l') ++ List.replicate (c' - (l.length + l'.length)) 0) := by
        rw [Array.toList_append, zeroCells_list, nums_append, nums_append, nums_replicate]
      have hN := new_of (w := w.drew) (t := e) rfl hz
      refine ⟨.inr ⟨w.heap.size, List.replicate (c' - (l.length + l'.length)) 0, ?_, hN.blk⟩, .inr fun b hb => ?_, ?_⟩
      · simp only [List.length_append, List.length_replicate]
        congr 1; omega
      · cases hb; exact Nat.le_refl _
      · have f := hN.fr (fun b => blkOf (.slice A l.length c) = some b)
        exact ⟨(below_drewN' (Below.refl 0 w) 1).trans f.base, fun b h1 h2 => f.block b h1 h2⟩
theorem app_num {k : IntKind} {e bytes : Nat} {w : World} {x : Value} {B : Option Addr} {m d : Nat} {l l' : List Int} {K : Value → World → Prop} (hx : Sl k w x l) (hm : l'.length = m) (hy : Rd w B (nums k l'))
    (hs : (l.length + l'.length) * bytes ≤ 140737488355328) (hb : 0 < bytes) (hK : ∀ v w', Apd k w x (l ++ l') v w' → K v w') : appK e 1 bytes #[.int k 0] x (.slice B m d) w K := by
  obtain ⟨A, c, rfl, _⟩ := hx.read
  exact ⟨nums k l', by rw [nums_length]; omega, fun h0 => hy.cells (by rw [nums_length]; omega), appC_num hx hm hs hb hK⟩
theorem appz_num {k kn : IntKind} {e bytes : Nat} {w : World} {x : Value} {n : Int} {l : List Int} {K : Value → World → Prop} (hx : Sl k w x l) (h0 : 0 ≤ n)
    (hs : (l.length + n.toNat) * bytes ≤ 140737488355328) (hb : 0 < bytes) (hK : ∀ v w', Apd k w x (l ++ List.replicate n.toNat 0) v w' → K v w') : appzK e 1 bytes #[.int k 0] x (.int kn n) w K := by
  obtain ⟨A, c, rfl, _⟩ := hx.read
  have h1 : (n.toNat : Int) = n := by omega
  have h2 : n.toNat * bytes ≤ (l.length + n.toNat) * bytes := Nat.mul_le_mul_right _ (by omega)
  have h3 : n.toNat ≤ n.toNat * bytes := Nat.le_mul_of_pos_right _ hb
  have h4 : n * (bytes : Int) = ((n.toNat * bytes : Nat) : Int) := by rw [Int.natCast_mul, h1]
  refine ⟨h0, by rw [h4]; omega, by omega, rfl, ?_⟩
  rw [zeroCells_list, ← nums_replicate]
  exact appC_num hx (by simp) (by simpa using hs) hb hK
/-- A slice of literals. -/
theorem bsl1 {k : IntKind} {e : Nat} {a : Int} {w : World} {K : Value → World → Prop} (hK : ∀ w', New w w' (nums k [a]) → K (.slice (some ⟨w.heap.size, 0, none⟩) 1 1) w') : bslT e 1 1 #[.int k 0] [(0, .int k a)] w K .mk :=
  ⟨#[.int k a], by kernel_rfl, hK _ (new_of rfl rfl)⟩
theorem bsl4 {k : IntKind} {e : Nat} {a b c d : Int} {w : World} {K : Value → World → Prop} (hK : ∀ w', New w w' (nums k [a, b, c, d]) → K (.slice (some ⟨w.heap.size, 0, none⟩) 4 4) w') : bslT e 1 4 #[.int k 0] [(0, .int k a), (1, .int k b), (2, .int k c), (3, .int k d)] w K .mk :=
  ⟨#[.int k a, .int k b, .int k c, .int k d], by kernel_rfl, hK _ (new_of rfl rfl)⟩
theorem New.sl {k : IntKind} {w w' : World} {l : List Int} (h : New w w' (nums k l)) : Sl k w' (.slice (some ⟨w.heap.size, 0, none⟩) l.length l.length) l := .inr ⟨w.heap.size, [], by simp, by simpa using h.blk⟩
theorem New.rdl {k : IntKind} {w w' : World} {l : List Int} (h : New w w' (nums k l)) : Rd w' (some ⟨w.heap.size, 0, none⟩) (nums k l) := h.blk.rd 0 (n := l.length) (by rw [List.drop_zero, nums_take]; simp)
/-- Sub-slices of what is read. -/
theorem Rd.sub {w : World} {A : Option Addr} {k : IntKind} {l : List Int} (h : Rd w A (nums k l)) (o : Nat) : Rd w (A.map (·.add o)) (nums k (l.drop o)) := by
  rcases h with h | ⟨p, e, hp, hc⟩
  · left
    have : l = [] := by cases l with | nil => rfl | cons => cases h
    subst this; simp [nums]
  · right
    subst e
    refine ⟨p.add o, rfl, by rw [add_block]; exact hp, ?_⟩
    rw [← nums_drop]; exact hc.sub o
theorem Rd.take {w : World} {A : Option Addr} {k : IntKind} {l : List Int} (h : Rd w A (nums k l)) (n : Nat) : Rd w A (nums k (l.take n)) := by
  rcases h with h | ⟨p, e, hp, hc⟩
  · left
    have : l = [] := by cases l with | nil => rfl | cons => cases h
    subst this; simp [nums]
  · exact .inr ⟨p, e, hp, by rw [← nums_take]; exact hc.take n⟩

theorem cell_drew (w : World) (p : Addr) : w.drew.cell? p = w.cell? p := rfl
/-! ### Slicing -/
def subA (A : Option Addr) (c lo sz : Nat) : Option Addr := if c = lo then A else A.map (·.add (lo * sz))
theorem add_zero' (p : Addr) : p.add 0 = p := by unfold Addr.add; simp
theorem map_add_zero (A : Option Addr) : A.map (·.add 0) = A := by cases A <;> simp [add_zero']
theorem r_slc_hi (sz x h) (ρ : Env) (w : World) (K) : rW (.slc sz x none (some h) none) ρ w K = slK (ev ρ x) fun A n c => intK (ev ρ h) fun hi => 0 ≤ hi ∧ hi ≤ c ∧ K (.slice A hi.toNat c) := by
  rw [r_slc]
  generalize ev ρ x = X
  simp only [Option.map_some, Option.map_none]
  generalize ev ρ h = H
  cases X <;> first | rfl | skip
  cases H <;> first | rfl | skip
  simp only [slK, optK, intK, Option.getD_none, Option.getD_some, Int.toNat_zero, Nat.zero_mul, map_add_zero, ite_self, Nat.sub_zero, Int.toNat_natCast, Int.le_refl, true_and, Option.isSome_none, Bool.false_eq_true, false_implies]
theorem r_slc_lo (sz x l) (ρ : Env) (w : World) (K) : rW (.slc sz x (some l) none none) ρ w K = slK (ev ρ x) fun A n c => intK (ev ρ l) fun lo => 0 ≤ lo ∧ lo ≤ n ∧ n ≤ c ∧ K (.slice (subA A c lo.toNat sz) (n - lo.toNat) (c - lo.toNat)) := by
  rw [r_slc]
  generalize ev ρ x = X
  simp only [Option.map_some, Option.map_none]
  generalize ev ρ l = H
  cases X <;> first | rfl | skip
  cases H <;> first | rfl | skip
  simp only [slK, optK, intK, Option.getD_none, Option.getD_some, Int.toNat_natCast, Int.le_refl, true_and, Option.isSome_none, Bool.false_eq_true, false_implies, subA, Int.ofNat_le]
theorem r_slc_lh (sz x l h) (ρ : Env) (w : World) (K) : rW (.slc sz x (some l) (some h) none) ρ w K = slK (ev ρ x) fun A n c => intK (ev ρ l) fun lo => intK (ev ρ h) fun hi => 0 ≤ lo ∧ lo ≤ hi ∧ hi ≤ c ∧ K (.slice (subA A c lo.toNat sz) (hi.toNat - lo.toNat) (c - lo.toNat)) := by
  rw [r_slc]
  generalize ev ρ x = X
  simp only [Option.map_some, Option.map_none]
  generalize ev ρ l = L
  generalize ev ρ h = H
  cases X <;> first | rfl | skip
  cases L <;> first | rfl | skip
  cases H <;> first | rfl | skip
  simp only [slK, optK, intK, Option.getD_none, Option.getD_some, Int.toNat_natCast, Int.le_refl, true_and, Option.isSome_none, Bool.false_eq_true, false_implies, subA]
theorem i_slc_hi (P : Program) (sz x h) (ρ : Env) (w : World) (K) : iW P (.slc sz x none (some h) none) ρ w K = slK (ev ρ x) fun A n c => intK (ev ρ h) fun hi => 0 ≤ hi ∧ hi ≤ c ∧ K (.slice A hi.toNat c) w := r_slc_hi sz x h ρ w (fun v => K v w)
theorem i_slc_lo (P : Program) (sz x l) (ρ : Env) (w : World) (K) : iW P (.slc sz x (some l) none none) ρ w K = slK (ev ρ x) fun A n c => intK (ev ρ l) fun lo => 0 ≤ lo ∧ lo ≤ n ∧ n ≤ c ∧ K (.slice (subA A c lo.toNat sz) (n - lo.toNat) (c - lo.toNat)) w := r_slc_lo sz x l ρ w (fun v => K v w)
theorem i_slc_lh (P : Program) (sz x l h) (ρ : Env) (w : World) (K) : iW P (.slc sz x (some l) (some h) none) ρ w K = slK (ev ρ x) fun A n c => intK (ev ρ l) fun lo => intK (ev ρ h) fun hi => 0 ≤ lo ∧ lo ≤ hi ∧ hi ≤ c ∧ K (.slice (subA A c lo.toNat sz) (hi.toNat - lo.toNat) (c - lo.toNat)) w := r_slc_lh sz x l h ρ w (fun v => K v w)
theorem q_slc_hi (P : Program) (sz x h) (ρ : Env) (w : World) (K) : qW P (.slc sz x none (some h) none) ρ w K = slK (ev ρ x) fun A n c => intK (ev ρ h) fun hi => 0 ≤ hi ∧ hi ≤ c ∧ K (.slice A hi.toNat c) := r_slc_hi sz x h ρ w _
theorem q_slc_lo (P : Program) (sz x l) (ρ : Env) (w : World) (K) : qW P (.slc sz x (some l) none none) ρ w K = slK (ev ρ x) fun A n c => intK (ev ρ l) fun lo => 0 ≤ lo ∧ lo ≤ n ∧ n ≤ c ∧ K (.slice (subA A c lo.toNat sz) (n - lo.toNat) (c - lo.toNat)) := r_slc_lo sz x l ρ w _
theorem q_slc_lh (P : Program) (sz x l h) (ρ : Env) (w : World) (K) : qW P (.slc sz x (some l) (some h) none) ρ w K = slK (ev ρ x) fun A n c => intK (ev ρ l) fun lo => intK (ev ρ h) fun hi => 0 ≤ lo ∧ lo ≤ hi ∧ hi ≤ c ∧ K (.slice (subA A c lo.toNat sz) (hi.toNat - lo.toNat) (c - lo.toNat)) := r_slc_lh sz x l h ρ w _
theorem nums_isNil {k : IntKind} {l : List Int} (h : nums k l = []) : l = [] := by
  cases l with
  | nil => rfl
  | cons => cases h
theorem Rd.subA {w : World} {A : Option Addr} {k : IntKind} {l : List Int} (h : Rd w A (nums k l)) (c o : Nat) (hc : l.length ≤ c) : Rd w (subA A c o 1) (nums k (l.drop o)) := by
  unfold Eng.subA
  split
  · rename_i e
    left; rw [List.drop_eq_nil_of_le (by omega)]; rfl
  · rw [Nat.mul_one]; exact h.sub o
theorem offA.subA {A : Option Addr} {P : Nat → Prop} (h : offA A P) (c o s : Nat) : offA (subA A c o s) P := by
  unfold Eng.subA
  split
  · exact h
  · intro p hp
    cases A with
    | none => cases hp
    | some q => cases hp; rw [add_block]; exact h q rfl
/-- A slice that is read, off the blocks P. -/
def RO (k : IntKind) (w : World) (A : Option Addr) (l : List Int) (P : Nat → Prop) : Prop := l = [] ∨ ∃ p, A = some p ∧ p.block < w.heap.size ∧ ¬ P p.block ∧ cellsAt w p (nums k l)
theorem RO.rd {k : IntKind} {w : World} {A : Option Addr} {l : List Int} {P : Nat → Prop} (h : RO k w A l P) : Rd w A (nums k l) := by
  rcases h with rfl | ⟨p, e, h1, _, h2⟩
  · exact .inl rfl
  · exact .inr ⟨p, e, h1, h2⟩
theorem RO.fr {k : IntKind} {w w' : World} {A : Option Addr} {l : List Int} {P : Nat → Prop} (h : RO k w A l P) (f : Fr w w' P) : RO k w' A l P := by
  rcases h with h | ⟨p, e, h1, h2, h3⟩
  · exact .inl h
  · exact .inr ⟨p, e, Nat.lt_of_lt_of_le h1 f.size, h2, h3.fr f h1 h2⟩
theorem RO.subA {k : IntKind} {w : World} {A : Option Addr} {l : List Int} {P : Nat → Prop} (h : RO k w A l P) (c o : Nat) (hc : l.length ≤ c) : RO k w (subA A c o 1) (l.drop o) P := by
  rcases h with rfl | ⟨p, e, h1, h2, h3⟩
  · exact .inl (by simp)
  · unfold Eng.subA
    split
    · left; exact List.drop_eq_nil_of_le (by omega)
    · subst e
      rw [Nat.mul_one]
      exact .inr ⟨p.add o, rfl, by rw [add_block]; exact h1, by rw [add_block]; exact h2, by rw [← nums_drop]; exact h3.sub o⟩
theorem RO.take {k : IntKind} {w : World} {A : Option Addr} {l : List Int} {P : Nat → Prop} (h : RO k w A l P) (n : Nat) : RO k w A (l.take n) P := by
  rcases h with rfl | ⟨p, e, h1, h2, h3⟩
  · exact .inl (by simp)
  · exact .inr ⟨p, e, h1, h2, by rw [← nums_take]; exact h3.take n⟩
theorem RO.mono {k : IntKind} {w : World} {A : Option Addr} {l : List Int} {P Q : Nat → Prop} (h : RO k w A l P) (hq : ∀ b, b < w.heap.size → Q b → P b) : RO k w A l Q := by
  rcases h with h | ⟨p, e, h1, h2, h3⟩
  · exact .inl h
  · exact .inr ⟨p, e, h1, fun x => h2 (hq _ h1 x), h3⟩
theorem Sl.drewN {k : IntKind} {w : World} {v : Value} {l : List Int} (h : Sl k w v l) (n : Nat) : Sl k (w.drewN n) v l := h.fr (Fr.drewN w n nob) (fun _ _ x => x)
theorem Sl.cut {k : IntKind} {w : World} {A : Option Addr} {n c m : Nat} {l : List Int} (h : Sl k w (.slice A n c) l) (hm : m ≤ l.length) (h0 : 0 < l.length) : Sl k w (.slice A m c) (l.take m) := by
  rcases h with ⟨rfl, e⟩ | ⟨b, pad, e, hB⟩
  · simp at h0
  · cases e
    refine .inr ⟨b, l.drop m ++ pad, ?_, ?_⟩
    · simp only [List.length_take, List.length_append, List.length_drop]
      rw [Nat.min_eq_left hm]
      congr 1; omega
    · rw [← List.append_assoc, List.take_append_drop]; exact hB
/-- A row that grows: its block is none of those that were there. -/
structure Gw (k : IntKind) (w0 w : World) (v : Value) (l : List Int) : Prop where
  sl : Sl k w v l
  up : ∀ b, blkOf v = some b → w0.heap.size ≤ b
  fr : Fr w0 w nob
theorem Gw.nil (k : IntKind) (w : World) : Gw k w w (.slice none 0 0) [] := ⟨Sl.nil _ _, fun b e => (by cases e), Fr.refl _ _⟩
theorem Gw.apd {k : IntKind} {w0 w w' : World} {v v' : Value} {l l' : List Int} (g : Gw k w0 w v l) (a : Apd k w v l' v' w') : Gw k w0 w' v' l' :=
  ⟨a.sl, fun b e => by
    rcases a.where_ with h | h
    · exact g.up b (h ▸ e)
    · exact Nat.le_trans g.fr.size (h b e), g.fr.trans a.fr fun x hx e => by have := g.up x e; omega⟩
theorem Gw.step {k : IntKind} {w0 w w' : World} {v : Value} {l : List Int} (g : Gw k w0 w v l) (f : Fr w w' nob) : Gw k w0 w' v l :=
  ⟨g.sl.fr f fun b _ x => x, g.up, g.fr.trans f fun x _ e => e⟩
theorem Gw.new {k : IntKind} {w0 w w' : World} {v : Value} {l : List Int} {cs : List Value} (g : Gw k w0 w v l) (n : New w w' cs) : Gw k w0 w' v l := g.step (n.fr nob)
theorem Gw.drewN {k : IntKind} {w0 w : World} {v : Value} {l : List Int} (g : Gw k w0 w v l) (n : Nat) : Gw k w0 (w.drewN n) v l := g.step (Fr.drewN w n nob)
/-- Another block of the program's own changes. -/
theorem Gw.other {k : IntKind} {w0 w w' : World} {v : Value} {l : List Int} (g : Gw k w0 w v l) {P : Nat → Prop} (f : Fr w w' P) (h1 : ∀ b, blkOf v = some b → ¬ P b) (h2 : ∀ b, b < w0.heap.size → ¬ P b) : Gw k w0 w' v l :=
  ⟨g.sl.fr f h1, g.up, g.fr.trans f fun x hx e => h2 x hx e⟩
end Go.Proofs.YtcflokckfjkdpaaDoor.Eng
