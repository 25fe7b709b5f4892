/- The engine: literals and strings. -/
import Derived.Test.YtcflokckfjkdpaaDoorEngI
set_option linter.unusedVariables false
set_option linter.unusedSimpArgs false
namespace Go.Proofs.YtcflokckfjkdpaaDoor.Eng
open Go Go.RowKit

theorem freeze_other (w : World) (a : Addr) (n b : Nat) (h : b ≠ a.block) : (w.freeze a n).heap[b]? = w.heap[b]? := by
  unfold World.freeze
  split
  · rfl
  · simp only [Array.getElem?_modify]
    rw [if_neg (fun e => h e.symm)]
theorem freeze_cell (w : World) (a : Addr) (n : Nat) (p : Addr) : (w.freeze a n).cell? p = w.cell? p := by
  unfold World.freeze
  split
  · rfl
  · unfold World.cell?
    simp only [Array.getElem?_modify]
    by_cases h : a.block = p.block
    · rw [if_pos h]
      generalize w.heap[p.block]? = o
      cases o with
      | none => rfl
      | some o => cases o with
        | cells c e f => cases f; rfl
        | _ => rfl
    · rw [if_neg h]
theorem freeze_fr (w : World) (a : Addr) (n : Nat) : Fr w (w.freeze a n) (fun b => b = a.block) := by
  refine ⟨⟨?_, ?_, ?_, ?_, fun k hk => by omega⟩, fun b _ hb => freeze_other w a n b hb⟩
  all_goals unfold World.freeze; split <;> simp
theorem mark_fr (w : World) (a : Addr) : Fr w (markW w a) (fun b => b = a.block) := by
  unfold markW
  split
  · exact freeze_fr _ _ _
  · exact Fr.refl _ _
theorem mark_cell (w : World) (a p : Addr) : (markW w a).cell? p = w.cell? p := by
  unfold markW
  split
  · exact freeze_cell _ _ _ _
  · rfl
theorem Rd.mark {w : World} {a : Addr} {A : Option Addr} {vs : List Value} (h : Rd w A vs) : Rd (markW w a) A vs := by
  rcases h with h | ⟨p, e, hp, hc⟩
  · exact .inl h
  · exact .inr ⟨p, e, Nat.lt_of_lt_of_le hp (mark_fr w a).size, fun j v hj => by rw [mark_cell]; exact hc j v hj⟩
def cvidT (x : Value) (w : World) (K : Value → World → Prop) (_ : Tok K) : Prop := slK x fun A n c => ∃ a, A = some a ∧ K (.slice A n c) (markW w a)
theorem i_cvidT (P : Program) (x) (ρ : Env) (w : World) (K) : iW P (.cvid x) ρ w K = cvidT (ev ρ x) w K .mk := (rfl)
theorem cvid_k {w : World} {b n c : Nat} {K : Value → World → Prop} {l : List Int} {k : IntKind} (h : Rd w (some ⟨b, 0, none⟩) (nums k l)) (hK : ∀ w', Fr w w' (fun x => x = b) → Rd w' (some ⟨b, 0, none⟩) (nums k l) → K (.slice (some ⟨b, 0, none⟩) n c) w') : cvidT (.slice (some ⟨b, 0, none⟩) n c) w K .mk :=
  ⟨_, rfl, hK _ (mark_fr w _) h.mark⟩
def cvbsJ (x : Value) (w : World) (K : Value → Prop) (_ : Tok K) : Prop := slK x fun A n _ => ∃ xs : List Int, xs.length = n ∧ (0 < n → ∃ p, A = some p ∧ cellsAt w p (xs.map (Value.int .u8))) ∧ K (.string (strOfNums xs))
theorem i_cvbsJ (P : Program) (x) (ρ : Env) (w : World) (K) : iW P (.cvbs x) ρ w K = cvbsJ (ev ρ x) w (fun v => K v w) .mk := (rfl)
theorem cvbs_k {w : World} {A : Option Addr} {n c : Nat} {K : Value → Prop} {l : List Int} {t : Tok K} (h : Rd w A (nums .u8 l)) (hl : l.length = n) (hK : K (.string (strOfNums l))) : cvbsJ (.slice A n c) w K t :=
  ⟨l, hl, fun h0 => h.cells (by rw [nums_length]; omega), hK⟩
theorem eql_k {a b : ByteArray} {K : Value → Prop} (h : (a.toList == b.toList) = true) (hK : K (.bool true)) : binK .eql (.string a) (.string b) K := by rw [b_seql, h]; exact hK
theorem bsl3 {k : IntKind} {e : Nat} {a b c : Int} {w : World} {K : Value → World → Prop} (hK : ∀ w', New w w' (nums k [a, b, c]) → K (.slice (some ⟨w.heap.size, 0, none⟩) 3 3) w') : bslT e 1 3 #[.int k 0] [(0, .int k a), (1, .int k b), (2, .int k c)] w K .mk :=
  ⟨#[.int k a, .int k b, .int k c], by kernel_rfl, hK _ (new_of rfl rfl)⟩
theorem bslS1 {e : Nat} {A : Option Addr} {n c : Nat} {w : World} {K : Value → World → Prop} (hK : ∀ w', New w w' [.slice A n c] → K (.slice (some ⟨w.heap.size, 0, none⟩) 1 1) w') : bslT e 1 1 #[.slice none 0 0] [(0, .slice A n c)] w K .mk :=
  ⟨#[.slice A n c], by kernel_rfl, hK _ (new_of rfl rfl)⟩
theorem bslS2 {e : Nat} {A B : Option Addr} {n c m d : Nat} {w : World} {K : Value → World → Prop} (hK : ∀ w', New w w' [.slice A n c, .slice B m d] → K (.slice (some ⟨w.heap.size, 0, none⟩) 2 2) w') : bslT e 1 2 #[.slice none 0 0] [(0, .slice A n c), (1, .slice B m d)] w K .mk :=
  ⟨#[.slice A n c, .slice B m d], by kernel_rfl, hK _ (new_of rfl rfl)⟩
theorem bslS3 {e : Nat} {A B C : Option Addr} {n c m d o f : Nat} {w : World} {K : Value → World → Prop} (hK : ∀ w', New w w' [.slice A n c, .slice B m d, .slice C o f] → K (.slice (some ⟨w.heap.size, 0, none⟩) 3 3) w') : bslT e 1 3 #[.slice none 0 0] [(0, .slice A n c), (1, .slice B m d), (2, .slice C o f)] w K .mk :=
  ⟨#[.slice A n c, .slice B m d, .slice C o f], by kernel_rfl, hK _ (new_of rfl rfl)⟩
theorem New.rdv {w w' : World} {l : List Value} (h : New w w' l) : Rd w' (some ⟨w.heap.size, 0, none⟩) l := h.blk.rd 0 (n := l.length) (by simp)
end Go.Proofs.YtcflokckfjkdpaaDoor.Eng
