/- DigestPieces: the row. -/
import Derived.Test.YtibccpfocbdmaaaDoorDigR
import Derived.Test.YtibccpfocbdmaaaDoorRow
import Derived.Test.YtibccpfocbdmaaaDoorDig11
set_option linter.unusedVariables false
namespace Go.Proofs.YtibccpfocbdmaaaDoor
open Go Go.ChangeShapes Go.WideShapes Go.ChangeAt Go.WideMaps Go.WideElems Go.RowKit Go.Proofs.YtibccpfocbdmaaaDoor.Eng Go.Proofs.YtibccpfocbdmaaaDoor.Spec
set_option maxRecDepth 100000
theorem cells_u8 : Tryd.prog.cellsOf 5 = 1 := by kernel_rfl
theorem digestPieces_walk {H : Type} {enc : TypeId × Value → H} (W : World) (base : Nat) (args : Array Value) (ds : List (DataW H)) (p : List MemPlace) (hA0 : DataW.TrodAll enc Tryd.prog W 0 (fun _ => true) true Tryd.f4.params.toList args.toList ds p)
    (hval : ∀ (j : Nat) t v, Tryd.f4.params[j]? = some t → args[j]? = some v → Value.okWide Tryd.prog W .any base t v) (hz : (DataW.weightsEach Tryd.prog Tryd.f4.params.toList ds).all (· ≤ reachBytes) = true) (hL : laidMetH Tryd.prog laid2 W) :
    callK Tryd.prog 4 args.toList W fun v w' => v = .bool true ∧ Fr W w' nob := by
  have hA : DataW.TrodAll enc Tryd.prog W 0 (fun _ => true) true Tryd.f4.params.toList args.toList ds p := hA0
  rw [Tryd.params4] at hA hval
  obtain ⟨v0, v1, v2, d0, d1, d2, p0, p1, p2, rfl, rfl, rfl, h0, h1, h2⟩ := trodAll_three hA
  obtain ⟨n0, rfl, -, -, -⟩ := open_int Tryd.underlying3 (hval 0 3 v0 rfl rfl) h0
  obtain ⟨A, c, l, m, rfl, hc, h63, -, hl, -⟩ := Row.open_sl Tryd.underlying25 Tryd.underlying5 cells_u8 (hval 1 25 v1 rfl rfl) h1
  obtain ⟨n2, rfl, -, -, -⟩ := open_int Tryd.underlying3 (hval 2 3 v2 rfl rfl) h2
  exact pieces_spec (of_laid hL (two_of_laid hL)) n0 n2 hl hc (by unfold maxLen at h63; omega) _ fun w' f => ⟨rfl, f⟩
theorem digestPieces_lifted (os : Os) (started : os.Started) (H : Type) (enc : TypeId × Value → H) :
    ReturnsInHanded {} Tryd.checked os 4 .any (fun w args => (Rows.digestPiecesSpec.pre enc Tryd.prog Tryd.f4 [] false w args ∧ laidMetH Tryd.prog laid2 w) ∧ sizedMet enc Tryd.prog Tryd.f4 (OpenSpec.ofChange Rows.digestPiecesSpec) false w args)
      (Rows.digestPiecesSpec.post enc Tryd.prog Tryd.f4 false true false false) :=
  Row.lifted_of (C := Tryd.checked) (X := fun w _ => laidMetH Tryd.prog laid2 w) (fun _ _ _ hh h => h.of_heap hh) own started (by kernel_rfl) Tryd.func4
    (ChangeSpec.witness_shaped (enc := enc) (C := Tryd.checked) (os := os) (X := fun w _ => laidMetH Tryd.prog laid2 w) false (World.doorLaid Tryd.prog 400 os) #[.int .i64 0, .slice none 0 0, .int .i64 0] 8 rfl (World.shaped_of_RefB (by kernel_rfl) (by kernel_rfl)) (by kernel_rfl) (by kernel_rfl) (by kernel_rfl) (door_met os _))
    laidOut (tb := 4) (by kernel_rfl) Tryd.underlying4 rfl (of_decide_eq_true (by kernel_rfl)) (fun ds h => by rw [show Tryd.f4.params.size = 3 by kernel_rfl] at h; obtain ⟨a, b, c, rfl⟩ := Row.len3 h; exact ⟨rfl, rfl, rfl⟩)
    (fun W base args ds p hA hval hz hL => digestPieces_walk (enc := enc) W base args ds p hA hval hz hL)
theorem digestPieces_holds : Rows.DigestPiecesSaid :=
  OpenClaim.holds_of_wide 4 Tryd.f4 rfl rfl rfl rfl rfl rfl rfl ⟨rfl, rfl, rfl, rfl, rfl⟩ rfl rfl rfl rfl rfl (by kernel_rfl) Tryd.func4 (by kernel_rfl)
    (of_decide_eq_true (by kernel_rfl)) (by unfold Func.isWrapper; first | (rw [if_pos (by decide +kernel)]; kernel_rfl) | (rw [if_neg (by decide +kernel)]; exact ⟨rfl, rfl⟩))
    (fun os started H enc _ => digestPieces_lifted os started H enc)
end Go.Proofs.YtibccpfocbdmaaaDoor
