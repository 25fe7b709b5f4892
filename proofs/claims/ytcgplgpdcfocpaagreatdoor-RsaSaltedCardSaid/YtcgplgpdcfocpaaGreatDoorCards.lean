/-
  DERIVED. GIVEN WITH THE SEED: THE CARDS: each row of YtcgplgpdcfocpaaGreatDoorRows.lean that lists a variable, with what it lists TIED to the program's text (the seventh form; the later family's looks); each row that meets fmt, with fmt's text TOLD by the authors' own Lean function (tested against real Go, not proved from fmt's source: count such statements apart). THE CARD IS WHAT COUNTS. Prove the row's statement (the work); the ties are given (YtcgplgpdcfocpaaGreatDoorTie.lean); close each card by the builder's one call (the guide's Derived/Test/ToyasCard.lean, 'card_holds'). Laid BY PROGRAM, IN A SANDBOX (cutbox-door.mjs). By AI agents, Wed Nov 11 2026. No macro, syntax, notation, axiom, sorry.
-/
import Derived.Test.YtcgplgpdcfocpaaGreatDoorRows
import GoSem.ClaimSeven
namespace Go.Proofs.YtcgplgpdcfocpaaGreatDoor
namespace Rows

/-- THE TIED CARD OF 'chirographlaw08.RsaVerifies'. -/
def rsaVerifiesCard : Claim7 := { stood := { row := rsaVerifiesRow, standIns := [], harness := (true, "ed0f270b3f953eab1ddec2cd987d6191db15485d6d846c111d670dab35a1f37a"), looks := false }, kinds := [], alts := [], laidByText := true, laidKinds := [.data, .data, .data, .pinned], laidTests := true, laidLooks := .later }
def RsaVerifiesCardSaid : Prop := Claim7.holds Tryz.pinned (.plain (OpenSpec.ofChange rsaVerifiesSpec)) rsaVerifiesCard

/-- THE TIED CARD OF 'chirographlaw08.RsaSigned'. -/
def rsaSignedCard : Claim7 := { stood := { row := rsaSignedRow, standIns := [], harness := (true, "ed0f270b3f953eab1ddec2cd987d6191db15485d6d846c111d670dab35a1f37a"), looks := false }, kinds := [], alts := [], laidByText := true, laidKinds := [.data, .data, .data, .pinned], laidTests := true, laidLooks := .later }
def RsaSignedCardSaid : Prop := Claim7.holds Tryz.pinned (.plain (OpenSpec.ofChange rsaSignedSpec)) rsaSignedCard

/-- THE TIED CARD OF 'chirographlaw08.RsaTurned'. -/
def rsaTurnedCard : Claim7 := { stood := { row := rsaTurnedRow, standIns := [], harness := (true, "ed0f270b3f953eab1ddec2cd987d6191db15485d6d846c111d670dab35a1f37a"), looks := false }, kinds := [], alts := [], laidByText := true, laidKinds := [.data, .data, .data, .pinned], laidTests := true, laidLooks := .later }
def RsaTurnedCardSaid : Prop := Claim7.holds Tryz.pinned (.plain (OpenSpec.ofChange rsaTurnedSpec)) rsaTurnedCard

/-- THE TIED CARD OF 'chirographlaw08.RsaPsses'. -/
def rsaPssesCard : Claim7 := { stood := { row := rsaPssesRow, standIns := [], harness := (true, "ed0f270b3f953eab1ddec2cd987d6191db15485d6d846c111d670dab35a1f37a"), looks := false }, kinds := [], alts := [], laidByText := true, laidKinds := [.data, .data, .data, .pinned], laidTests := true, laidLooks := .later }
def RsaPssesCardSaid : Prop := Claim7.holds Tryz.pinned (.plain (OpenSpec.ofChange rsaPssesSpec)) rsaPssesCard

/-- THE TIED CARD OF 'chirographlaw08.RsaSalted'. -/
def rsaSaltedCard : Claim7 := { stood := { row := rsaSaltedRow, standIns := [], harness := (true, "ed0f270b3f953eab1ddec2cd987d6191db15485d6d846c111d670dab35a1f37a"), looks := false }, kinds := [], alts := [], laidByText := true, laidKinds := [.data, .data, .data, .pinned], laidTests := true, laidLooks := .later }
def RsaSaltedCardSaid : Prop := Claim7.holds Tryz.pinned (.plain (OpenSpec.ofChange rsaSaltedSpec)) rsaSaltedCard

/-- THE SECOND FORM's CARD OF 'chirographlaw08.RsaVerifies'. -/
def rsaVerifiesUptoCard : Claim7 := { stood := { row := rsaVerifiesUptoRow, standIns := [], harness := (true, "ed0f270b3f953eab1ddec2cd987d6191db15485d6d846c111d670dab35a1f37a"), looks := false }, kinds := [], alts := [], laidByText := true, laidKinds := [.data, .data, .data, .pinned], laidTests := true, laidLooks := .later }
def RsaVerifiesUptoCardSaid : Prop := Claim7.holds Tryz.pinned (.plain (OpenSpec.upto rsaVerifiesSpec)) rsaVerifiesUptoCard

/-- THE SECOND FORM's CARD OF 'chirographlaw08.RsaSigned'. -/
def rsaSignedUptoCard : Claim7 := { stood := { row := rsaSignedUptoRow, standIns := [], harness := (true, "ed0f270b3f953eab1ddec2cd987d6191db15485d6d846c111d670dab35a1f37a"), looks := false }, kinds := [], alts := [], laidByText := true, laidKinds := [.data, .data, .data, .pinned], laidTests := true, laidLooks := .later }
def RsaSignedUptoCardSaid : Prop := Claim7.holds Tryz.pinned (.plain (OpenSpec.upto rsaSignedSpec)) rsaSignedUptoCard

/-- THE SECOND FORM's CARD OF 'chirographlaw08.RsaTurned'. -/
def rsaTurnedUptoCard : Claim7 := { stood := { row := rsaTurnedUptoRow, standIns := [], harness := (true, "ed0f270b3f953eab1ddec2cd987d6191db15485d6d846c111d670dab35a1f37a"), looks := false }, kinds := [], alts := [], laidByText := true, laidKinds := [.data, .data, .data, .pinned], laidTests := true, laidLooks := .later }
def RsaTurnedUptoCardSaid : Prop := Claim7.holds Tryz.pinned (.plain (OpenSpec.upto rsaTurnedSpec)) rsaTurnedUptoCard

/-- THE SECOND FORM's CARD OF 'chirographlaw08.RsaPsses'. -/
def rsaPssesUptoCard : Claim7 := { stood := { row := rsaPssesUptoRow, standIns := [], harness := (true, "ed0f270b3f953eab1ddec2cd987d6191db15485d6d846c111d670dab35a1f37a"), looks := false }, kinds := [], alts := [], laidByText := true, laidKinds := [.data, .data, .data, .pinned], laidTests := true, laidLooks := .later }
def RsaPssesUptoCardSaid : Prop := Claim7.holds Tryz.pinned (.plain (OpenSpec.upto rsaPssesSpec)) rsaPssesUptoCard

/-- THE SECOND FORM's CARD OF 'chirographlaw08.RsaSalted'. -/
def rsaSaltedUptoCard : Claim7 := { stood := { row := rsaSaltedUptoRow, standIns := [], harness := (true, "ed0f270b3f953eab1ddec2cd987d6191db15485d6d846c111d670dab35a1f37a"), looks := false }, kinds := [], alts := [], laidByText := true, laidKinds := [.data, .data, .data, .pinned], laidTests := true, laidLooks := .later }
def RsaSaltedUptoCardSaid : Prop := Claim7.holds Tryz.pinned (.plain (OpenSpec.upto rsaSaltedSpec)) rsaSaltedUptoCard
end Rows
end Go.Proofs.YtcgplgpdcfocpaaGreatDoor
