/-
  DERIVED. GIVEN WITH THE SEED: THE CARDS: each row of YtcflokckfjkdpaaDoorRows.lean that lists a variable, with what it lists TIED to the program's text (the seventh form; the later family's looks); each row that meets fmt, with fmt's text TOLD by the authors' own Lean function (tested against real Go, not proved from fmt's source: count such statements apart). THE CARD IS WHAT COUNTS. Prove the row's statement (the work); the ties are given (YtcflokckfjkdpaaDoorTie.lean); close each card by the builder's one call (the guide's Derived/Test/ToyasCard.lean, 'card_holds'). Laid BY PROGRAM, IN A SANDBOX (cutbox-door.mjs). By AI agents, Wed Nov 11 2026. No macro, syntax, notation, axiom, sorry.
-/
import Derived.Test.YtcflokckfjkdpaaDoorRows
import GoSem.ClaimSeven
namespace Go.Proofs.YtcflokckfjkdpaaDoor
namespace Rows

/-- THE TIED CARD OF 'chirographlaw04.DerBits'. -/
def derBitsCard : Claim7 := { stood := { row := derBitsRow, standIns := [], harness := (true, "b0f98ca86498d09aa392f72418b7d9cd37849646039c304add223e9f0f14904e"), looks := true }, kinds := [], alts := [], laidByText := true, laidKinds := [.data, .data, .data, .data, .pinned], laidTests := true, laidLooks := .later }
def DerBitsCardSaid : Prop := Claim7.holds Tryd.pinned (.plain (OpenSpec.ofChange derBitsSpec)) derBitsCard

/-- THE TIED CARD OF 'chirographlaw04.DerOids'. -/
def derOidsCard : Claim7 := { stood := { row := derOidsRow, standIns := [], harness := (true, "b0f98ca86498d09aa392f72418b7d9cd37849646039c304add223e9f0f14904e"), looks := true }, kinds := [], alts := [], laidByText := true, laidKinds := [.data, .data, .data, .data, .pinned], laidTests := true, laidLooks := .later }
def DerOidsCardSaid : Prop := Claim7.holds Tryd.pinned (.plain (OpenSpec.ofChange derOidsSpec)) derOidsCard

/-- THE TIED CARD OF 'chirographlaw04.DerOwn'. -/
def derOwnCard : Claim7 := { stood := { row := derOwnRow, standIns := [], harness := (true, "b0f98ca86498d09aa392f72418b7d9cd37849646039c304add223e9f0f14904e"), looks := true }, kinds := [], alts := [], laidByText := true, laidKinds := [.data, .data, .data, .data, .pinned], laidTests := true, laidLooks := .later }
def DerOwnCardSaid : Prop := Claim7.holds Tryd.pinned (.plain (OpenSpec.ofChange derOwnSpec)) derOwnCard

/-- THE TIED CARD OF 'chirographlaw04.DerSplits'. -/
def derSplitsCard : Claim7 := { stood := { row := derSplitsRow, standIns := [], harness := (true, "b0f98ca86498d09aa392f72418b7d9cd37849646039c304add223e9f0f14904e"), looks := true }, kinds := [], alts := [], laidByText := true, laidKinds := [.data, .data, .data, .data, .pinned], laidTests := true, laidLooks := .later }
def DerSplitsCardSaid : Prop := Claim7.holds Tryd.pinned (.plain (OpenSpec.ofChange derSplitsSpec)) derSplitsCard

/-- THE TIED CARD OF 'chirographlaw04.DerPuts'. -/
def derPutsCard : Claim7 := { stood := { row := derPutsRow, standIns := [], harness := (true, "b0f98ca86498d09aa392f72418b7d9cd37849646039c304add223e9f0f14904e"), looks := true }, kinds := [], alts := [], laidByText := true, laidKinds := [.data, .data, .data, .data, .pinned], laidTests := true, laidLooks := .later }
def DerPutsCardSaid : Prop := Claim7.holds Tryd.pinned (.plain (OpenSpec.ofChange derPutsSpec)) derPutsCard

/-- THE TIED CARD OF 'chirographlaw04.DerBack'. -/
def derBackCard : Claim7 := { stood := { row := derBackRow, standIns := [], harness := (true, "b0f98ca86498d09aa392f72418b7d9cd37849646039c304add223e9f0f14904e"), looks := true }, kinds := [], alts := [], laidByText := true, laidKinds := [.data, .data, .data, .data, .pinned], laidTests := true, laidLooks := .later }
def DerBackCardSaid : Prop := Claim7.holds Tryd.pinned (.plain (OpenSpec.ofChange derBackSpec)) derBackCard

/-- THE TIED CARD OF 'chirographlaw04.DerThere'. -/
def derThereCard : Claim7 := { stood := { row := derThereRow, standIns := [], harness := (true, "b0f98ca86498d09aa392f72418b7d9cd37849646039c304add223e9f0f14904e"), looks := true }, kinds := [], alts := [], laidByText := true, laidKinds := [.data, .data, .data, .data, .pinned], laidTests := true, laidLooks := .later }
def DerThereCardSaid : Prop := Claim7.holds Tryd.pinned (.plain (OpenSpec.ofChange derThereSpec)) derThereCard

/-- THE TIED CARD OF 'chirographlaw04.DerNumbers'. -/
def derNumbersCard : Claim7 := { stood := { row := derNumbersRow, standIns := [], harness := (true, "b0f98ca86498d09aa392f72418b7d9cd37849646039c304add223e9f0f14904e"), looks := true }, kinds := [], alts := [], laidByText := true, laidKinds := [.data, .data, .data, .data, .pinned], laidTests := true, laidLooks := .later }
def DerNumbersCardSaid : Prop := Claim7.holds Tryd.pinned (.plain (OpenSpec.ofChange derNumbersSpec)) derNumbersCard

/-- THE TIED CARD OF 'chirographlaw04.DerWhole'. -/
def derWholeCard : Claim7 := { stood := { row := derWholeRow, standIns := [], harness := (true, "b0f98ca86498d09aa392f72418b7d9cd37849646039c304add223e9f0f14904e"), looks := true }, kinds := [], alts := [], laidByText := true, laidKinds := [.data, .data, .data, .data, .handle, .pinned], laidTests := true, laidLooks := .later }
def DerWholeCardSaid : Prop := Claim7.holds Tryd.pinned (.plain (OpenSpec.ofChange derWholeSpec)) derWholeCard

/-- THE SECOND FORM's CARD OF 'chirographlaw04.DerBits'. -/
def derBitsUptoCard : Claim7 := { stood := { row := derBitsUptoRow, standIns := [], harness := (true, "b0f98ca86498d09aa392f72418b7d9cd37849646039c304add223e9f0f14904e"), looks := true }, kinds := [], alts := [], laidByText := true, laidKinds := [.data, .data, .data, .data, .pinned], laidTests := true, laidLooks := .later }
def DerBitsUptoCardSaid : Prop := Claim7.holds Tryd.pinned (.plain (OpenSpec.upto derBitsSpec)) derBitsUptoCard

/-- THE SECOND FORM's CARD OF 'chirographlaw04.DerOids'. -/
def derOidsUptoCard : Claim7 := { stood := { row := derOidsUptoRow, standIns := [], harness := (true, "b0f98ca86498d09aa392f72418b7d9cd37849646039c304add223e9f0f14904e"), looks := true }, kinds := [], alts := [], laidByText := true, laidKinds := [.data, .data, .data, .data, .pinned], laidTests := true, laidLooks := .later }
def DerOidsUptoCardSaid : Prop := Claim7.holds Tryd.pinned (.plain (OpenSpec.upto derOidsSpec)) derOidsUptoCard

/-- THE SECOND FORM's CARD OF 'chirographlaw04.DerOwn'. -/
def derOwnUptoCard : Claim7 := { stood := { row := derOwnUptoRow, standIns := [], harness := (true, "b0f98ca86498d09aa392f72418b7d9cd37849646039c304add223e9f0f14904e"), looks := true }, kinds := [], alts := [], laidByText := true, laidKinds := [.data, .data, .data, .data, .pinned], laidTests := true, laidLooks := .later }
def DerOwnUptoCardSaid : Prop := Claim7.holds Tryd.pinned (.plain (OpenSpec.upto derOwnSpec)) derOwnUptoCard

/-- THE SECOND FORM's CARD OF 'chirographlaw04.DerSplits'. -/
def derSplitsUptoCard : Claim7 := { stood := { row := derSplitsUptoRow, standIns := [], harness := (true, "b0f98ca86498d09aa392f72418b7d9cd37849646039c304add223e9f0f14904e"), looks := true }, kinds := [], alts := [], laidByText := true, laidKinds := [.data, .data, .data, .data, .pinned], laidTests := true, laidLooks := .later }
def DerSplitsUptoCardSaid : Prop := Claim7.holds Tryd.pinned (.plain (OpenSpec.upto derSplitsSpec)) derSplitsUptoCard

/-- THE SECOND FORM's CARD OF 'chirographlaw04.DerPuts'. -/
def derPutsUptoCard : Claim7 := { stood := { row := derPutsUptoRow, standIns := [], harness := (true, "b0f98ca86498d09aa392f72418b7d9cd37849646039c304add223e9f0f14904e"), looks := true }, kinds := [], alts := [], laidByText := true, laidKinds := [.data, .data, .data, .data, .pinned], laidTests := true, laidLooks := .later }
def DerPutsUptoCardSaid : Prop := Claim7.holds Tryd.pinned (.plain (OpenSpec.upto derPutsSpec)) derPutsUptoCard

/-- THE SECOND FORM's CARD OF 'chirographlaw04.DerBack'. -/
def derBackUptoCard : Claim7 := { stood := { row := derBackUptoRow, standIns := [], harness := (true, "b0f98ca86498d09aa392f72418b7d9cd37849646039c304add223e9f0f14904e"), looks := true }, kinds := [], alts := [], laidByText := true, laidKinds := [.data, .data, .data, .data, .pinned], laidTests := true, laidLooks := .later }
def DerBackUptoCardSaid : Prop := Claim7.holds Tryd.pinned (.plain (OpenSpec.upto derBackSpec)) derBackUptoCard

/-- THE SECOND FORM's CARD OF 'chirographlaw04.DerThere'. -/
def derThereUptoCard : Claim7 := { stood := { row := derThereUptoRow, standIns := [], harness := (true, "b0f98ca86498d09aa392f72418b7d9cd37849646039c304add223e9f0f14904e"), looks := true }, kinds := [], alts := [], laidByText := true, laidKinds := [.data, .data, .data, .data, .pinned], laidTests := true, laidLooks := .later }
def DerThereUptoCardSaid : Prop := Claim7.holds Tryd.pinned (.plain (OpenSpec.upto derThereSpec)) derThereUptoCard

/-- THE SECOND FORM's CARD OF 'chirographlaw04.DerNumbers'. -/
def derNumbersUptoCard : Claim7 := { stood := { row := derNumbersUptoRow, standIns := [], harness := (true, "b0f98ca86498d09aa392f72418b7d9cd37849646039c304add223e9f0f14904e"), looks := true }, kinds := [], alts := [], laidByText := true, laidKinds := [.data, .data, .data, .data, .pinned], laidTests := true, laidLooks := .later }
def DerNumbersUptoCardSaid : Prop := Claim7.holds Tryd.pinned (.plain (OpenSpec.upto derNumbersSpec)) derNumbersUptoCard

/-- THE SECOND FORM's CARD OF 'chirographlaw04.DerWhole'. -/
def derWholeUptoCard : Claim7 := { stood := { row := derWholeUptoRow, standIns := [], harness := (true, "b0f98ca86498d09aa392f72418b7d9cd37849646039c304add223e9f0f14904e"), looks := true }, kinds := [], alts := [], laidByText := true, laidKinds := [.data, .data, .data, .data, .handle, .pinned], laidTests := true, laidLooks := .later }
def DerWholeUptoCardSaid : Prop := Claim7.holds Tryd.pinned (.plain (OpenSpec.upto derWholeSpec)) derWholeUptoCard
end Rows
end Go.Proofs.YtcflokckfjkdpaaDoor
