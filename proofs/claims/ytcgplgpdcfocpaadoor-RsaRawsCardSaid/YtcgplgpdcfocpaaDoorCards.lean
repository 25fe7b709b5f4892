/-
  DERIVED. GIVEN WITH THE SEED: THE CARDS: each row of YtcgplgpdcfocpaaDoorRows.lean that lists a variable, with what it lists TIED to the program's text (the seventh form; the later family's looks); each row that meets fmt, with fmt's text TOLD by the authors' own Lean function (tested against real Go, not proved from fmt's source: count such statements apart). THE CARD IS WHAT COUNTS. Prove the row's statement (the work); the ties are given (YtcgplgpdcfocpaaDoorTie.lean); close each card by the builder's one call (the guide's Derived/Test/ToyasCard.lean, 'card_holds'). Laid BY PROGRAM, IN A SANDBOX (cutbox-door.mjs). By AI agents, Wed Nov 11 2026. No macro, syntax, notation, axiom, sorry.
-/
import Derived.Test.YtcgplgpdcfocpaaDoorRows
import GoSem.ClaimSeven
namespace Go.Proofs.YtcgplgpdcfocpaaDoor
namespace Rows

/-- THE TIED CARD OF 'chirographlaw08.RsaChecks'. -/
def rsaChecksCard : Claim7 := { stood := { row := rsaChecksRow, standIns := [], harness := (true, "4b9797bfd06e9fa53421857f70d4a36c777c49a37cacd77b9ca3a459656b2d16"), looks := false }, kinds := [], alts := [], laidByText := true, laidKinds := [.data, .data, .data, .pinned], laidTests := true, laidLooks := .later }
def RsaChecksCardSaid : Prop := Claim7.holds Tryd.pinned (.plain (OpenSpec.ofChange rsaChecksSpec)) rsaChecksCard

/-- THE TIED CARD OF 'chirographlaw08.RsaMasks'. -/
def rsaMasksCard : Claim7 := { stood := { row := rsaMasksRow, standIns := [], harness := (true, "4b9797bfd06e9fa53421857f70d4a36c777c49a37cacd77b9ca3a459656b2d16"), looks := false }, kinds := [], alts := [], laidByText := true, laidKinds := [.data, .data, .data, .pinned], laidTests := true, laidLooks := .later }
def RsaMasksCardSaid : Prop := Claim7.holds Tryd.pinned (.plain (OpenSpec.ofChange rsaMasksSpec)) rsaMasksCard

/-- THE TIED CARD OF 'chirographlaw08.RsaPads'. -/
def rsaPadsCard : Claim7 := { stood := { row := rsaPadsRow, standIns := [], harness := (true, "4b9797bfd06e9fa53421857f70d4a36c777c49a37cacd77b9ca3a459656b2d16"), looks := false }, kinds := [], alts := [], laidByText := true, laidKinds := [.data, .data, .data, .pinned], laidTests := true, laidLooks := .later }
def RsaPadsCardSaid : Prop := Claim7.holds Tryd.pinned (.plain (OpenSpec.ofChange rsaPadsSpec)) rsaPadsCard

/-- THE TIED CARD OF 'chirographlaw08.RsaRaws'. -/
def rsaRawsCard : Claim7 := { stood := { row := rsaRawsRow, standIns := [], harness := (true, "4b9797bfd06e9fa53421857f70d4a36c777c49a37cacd77b9ca3a459656b2d16"), looks := false }, kinds := [], alts := [], laidByText := true, laidKinds := [.data, .data, .data, .pinned], laidTests := true, laidLooks := .later }
def RsaRawsCardSaid : Prop := Claim7.holds Tryd.pinned (.plain (OpenSpec.ofChange rsaRawsSpec)) rsaRawsCard

/-- THE SECOND FORM's CARD OF 'chirographlaw08.RsaChecks'. -/
def rsaChecksUptoCard : Claim7 := { stood := { row := rsaChecksUptoRow, standIns := [], harness := (true, "4b9797bfd06e9fa53421857f70d4a36c777c49a37cacd77b9ca3a459656b2d16"), looks := false }, kinds := [], alts := [], laidByText := true, laidKinds := [.data, .data, .data, .pinned], laidTests := true, laidLooks := .later }
def RsaChecksUptoCardSaid : Prop := Claim7.holds Tryd.pinned (.plain (OpenSpec.upto rsaChecksSpec)) rsaChecksUptoCard

/-- THE SECOND FORM's CARD OF 'chirographlaw08.RsaMasks'. -/
def rsaMasksUptoCard : Claim7 := { stood := { row := rsaMasksUptoRow, standIns := [], harness := (true, "4b9797bfd06e9fa53421857f70d4a36c777c49a37cacd77b9ca3a459656b2d16"), looks := false }, kinds := [], alts := [], laidByText := true, laidKinds := [.data, .data, .data, .pinned], laidTests := true, laidLooks := .later }
def RsaMasksUptoCardSaid : Prop := Claim7.holds Tryd.pinned (.plain (OpenSpec.upto rsaMasksSpec)) rsaMasksUptoCard

/-- THE SECOND FORM's CARD OF 'chirographlaw08.RsaPads'. -/
def rsaPadsUptoCard : Claim7 := { stood := { row := rsaPadsUptoRow, standIns := [], harness := (true, "4b9797bfd06e9fa53421857f70d4a36c777c49a37cacd77b9ca3a459656b2d16"), looks := false }, kinds := [], alts := [], laidByText := true, laidKinds := [.data, .data, .data, .pinned], laidTests := true, laidLooks := .later }
def RsaPadsUptoCardSaid : Prop := Claim7.holds Tryd.pinned (.plain (OpenSpec.upto rsaPadsSpec)) rsaPadsUptoCard

/-- THE SECOND FORM's CARD OF 'chirographlaw08.RsaRaws'. -/
def rsaRawsUptoCard : Claim7 := { stood := { row := rsaRawsUptoRow, standIns := [], harness := (true, "4b9797bfd06e9fa53421857f70d4a36c777c49a37cacd77b9ca3a459656b2d16"), looks := false }, kinds := [], alts := [], laidByText := true, laidKinds := [.data, .data, .data, .pinned], laidTests := true, laidLooks := .later }
def RsaRawsUptoCardSaid : Prop := Claim7.holds Tryd.pinned (.plain (OpenSpec.upto rsaRawsSpec)) rsaRawsUptoCard
end Rows
end Go.Proofs.YtcgplgpdcfocpaaDoor
