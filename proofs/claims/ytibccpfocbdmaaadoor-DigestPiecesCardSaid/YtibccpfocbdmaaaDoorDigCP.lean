/- DigestPieces: the tied card, proved. -/
import Derived.Test.YtibccpfocbdmaaaDoorDigRP
import Derived.Test.YtibccpfocbdmaaaDoorCards
import Derived.Test.YtibccpfocbdmaaaDoorTie
import Derived.SevenTiedAt
namespace Go.Proofs.YtibccpfocbdmaaaDoor
open Go
set_option maxRecDepth 100000
theorem stand_of {P : Program} {fn : Func} (h : (fn.params.toList.all fun t => !P.wantsStandIn t) = true) : ∀ (j : Nat) t, fn.params[j]? = some t → P.wantsStandIn t = false := by
  intro j t hj
  have := List.all_eq_true.1 h t (by rw [Array.mem_toList_iff]; exact Array.mem_of_getElem? hj)
  simpa using this
theorem digestPieces_card : Rows.DigestPiecesCardSaid :=
  Claim7.holds_tied_plain_at .later [] [.data, .data] true (true, "661b36e8910ca13b7c64b750c1e6a110c8bf24db9e400acd8f27436c7f004418") false
    digestPieces_holds (fun _ h => by cases h) (by kernel_rfl) (fun _ h => by cases h) digestPieces_row_tie rfl ⟨rfl, rfl⟩ (by kernel_rfl) rfl
    (fun f fn hf hfn => by
      obtain rfl : f = 4 := Option.some.inj ((show Tryd.prog.funcNamed "chirograph/chirographlaw02.DigestPieces" = some 4 by kernel_rfl).symm.trans hf) |>.symm
      obtain rfl : fn = Tryd.f4 := (Option.some.inj (Tryd.func4.symm.trans hfn)).symm
      exact ⟨by kernel_rfl, stand_of (by kernel_rfl)⟩)
    (by kernel_rfl)
end Go.Proofs.YtibccpfocbdmaaaDoor
