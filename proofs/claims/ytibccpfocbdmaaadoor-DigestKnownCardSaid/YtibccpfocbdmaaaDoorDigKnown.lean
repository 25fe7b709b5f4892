/- DigestKnown: the tied card, proved. -/
import Derived.Test.YtibccpfocbdmaaaDoorDigR
import Derived.Test.YtibccpfocbdmaaaDoorCards
import Derived.Test.YtibccpfocbdmaaaDoorTie
import Derived.SevenTiedAt
namespace Go.Proofs.YtibccpfocbdmaaaDoor
open Go
set_option maxRecDepth 100000
theorem digestKnown_card : Rows.DigestKnownCardSaid :=
  Claim7.holds_tied_plain_at .later [] [.data, .data] true (true, "661b36e8910ca13b7c64b750c1e6a110c8bf24db9e400acd8f27436c7f004418") false
    digestKnown_holds (fun _ h => by cases h) (by kernel_rfl) (fun _ h => by cases h) digestKnown_row_tie rfl ⟨rfl, rfl⟩ (by kernel_rfl) rfl
    (fun f fn hf hfn => by
      obtain rfl : f = 5 := Option.some.inj ((show Tryd.prog.funcNamed "chirograph/chirographlaw02.DigestKnown" = some 5 by kernel_rfl).symm.trans hf) |>.symm
      obtain rfl : fn = Tryd.f5 := (Option.some.inj (Tryd.func5.symm.trans hfn)).symm
      exact ⟨by kernel_rfl, fun j t ht => by
        rw [Tryd.params5] at ht
        simp at ht⟩)
    (by kernel_rfl)
end Go.Proofs.YtibccpfocbdmaaaDoor
