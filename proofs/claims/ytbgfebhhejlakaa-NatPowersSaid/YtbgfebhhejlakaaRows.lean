/-
  No cell of these rows narrows 'for every input' (looked for: loops, veiled, ifaces, maps, wideKeys, modest, calm, conditions, laid).
  DERIVED. THE GIVEN ROWS OF THIS SEAT. 12 by the template 'for every input the law returns true; each argument reads behind the call as it read before'; 0 by the template 'total and deterministic' (their statements: YtbgfebhhejlakaaTotals.lean).
  GIVEN WITH THE SEED: the statements are not yours to turn. If you find one false, say at which input.
  Laid BY PROGRAM, IN A SANDBOX (cutbox-rows.mjs): the forced cells as the released guide's own fill.sh prints them over the translation 1da521623741945b… (all of the seat's roots in one cut). By AI agents, Wed Nov 11 2026. No macro, syntax, notation, axiom, sorry.
-/
import Derived.Test.YtbgfebhhejlakaaChecked
import GoSem.Claim
import GoSem.ClaimJoined
import GoSem.ClaimMapViews
import Derived.JoinedTies
import Derived.KernelRfl
namespace Go.Proofs.Ytbgfebhhejlakaa
/- THE CELL 'sum', in the pinned program and in every row, IS THE sha256 OF THE DUMP (.gsa) THAT YtbgfebhhejlakaaProg.lean LOADS. Nothing in Lean hashes anything: it is a label: what it is worth is what the hold of that sum in a sandbox is worth. -/
noncomputable def Try.pinned : Pinned := { name := "ytbgfebhhejlakaa", sum := "1da521623741945bd8fd475ed8ff8bf65a591d691720db817efd5a9776017faa", checked := Try.checked }
namespace Rows
def none {H : Type} : Left H := { results := [], args := [] }

/-- 'chirographlaw01.NatAdds': WHATEVER THE INPUT: true; the input reads as it did. -/
def natAddsSpec : ChangeSpec := { name := "natAdds", fn := fun _ => fun
  | [d1, d2] => { results := [.lit (.bool true)], args := [d1, d2] }
  | _ => none }
def natAddsRow : OpenClaim := { program := "ytbgfebhhejlakaa", sum := "1da521623741945bd8fd475ed8ff8bf65a591d691720db817efd5a9776017faa", func := "chirograph/chirographlaw01.NatAdds", spec := "natAdds", named := ["math/bits.overflowError"], apart := false }
def NatAddsSaid : Prop := natAddsRow.holds Try.pinned (OpenSpec.ofChange natAddsSpec)

/-- ITS FALSE NEIGHBOUR: 'it returns false'. Refute it at one input. -/
def natAddsWrong : ChangeSpec := { name := "natAdds", fn := fun _ => fun
  | [d1, d2] => { results := [.lit (.bool false)], args := [d1, d2] }
  | _ => none }
def NatAddsWrongFalsely : Prop := natAddsRow.holds Try.pinned (OpenSpec.ofChange natAddsWrong)

/-- 'chirographlaw01.NatMuls': WHATEVER THE INPUT: true; the input reads as it did. -/
def natMulsSpec : ChangeSpec := { name := "natMuls", fn := fun _ => fun
  | [d1, d2] => { results := [.lit (.bool true)], args := [d1, d2] }
  | _ => none }
def natMulsRow : OpenClaim := { program := "ytbgfebhhejlakaa", sum := "1da521623741945bd8fd475ed8ff8bf65a591d691720db817efd5a9776017faa", func := "chirograph/chirographlaw01.NatMuls", spec := "natMuls", named := ["math/bits.overflowError"], apart := false }
def NatMulsSaid : Prop := natMulsRow.holds Try.pinned (OpenSpec.ofChange natMulsSpec)

/-- ITS FALSE NEIGHBOUR: 'it returns false'. Refute it at one input. -/
def natMulsWrong : ChangeSpec := { name := "natMuls", fn := fun _ => fun
  | [d1, d2] => { results := [.lit (.bool false)], args := [d1, d2] }
  | _ => none }
def NatMulsWrongFalsely : Prop := natMulsRow.holds Try.pinned (OpenSpec.ofChange natMulsWrong)

/-- 'chirographlaw01.NatDivs': WHATEVER THE INPUT: true; the input reads as it did. -/
def natDivsSpec : ChangeSpec := { name := "natDivs", fn := fun _ => fun
  | [d1, d2] => { results := [.lit (.bool true)], args := [d1, d2] }
  | _ => none }
def natDivsRow : OpenClaim := { program := "ytbgfebhhejlakaa", sum := "1da521623741945bd8fd475ed8ff8bf65a591d691720db817efd5a9776017faa", func := "chirograph/chirographlaw01.NatDivs", spec := "natDivs", named := ["math/bits.overflowError"], apart := false }
def NatDivsSaid : Prop := natDivsRow.holds Try.pinned (OpenSpec.ofChange natDivsSpec)

/-- ITS FALSE NEIGHBOUR: 'it returns false'. Refute it at one input. -/
def natDivsWrong : ChangeSpec := { name := "natDivs", fn := fun _ => fun
  | [d1, d2] => { results := [.lit (.bool false)], args := [d1, d2] }
  | _ => none }
def NatDivsWrongFalsely : Prop := natDivsRow.holds Try.pinned (OpenSpec.ofChange natDivsWrong)

/-- 'chirographlaw01.NatPowers': WHATEVER THE INPUT: true; the input reads as it did. -/
def natPowersSpec : ChangeSpec := { name := "natPowers", fn := fun _ => fun
  | [d1, d2, d3] => { results := [.lit (.bool true)], args := [d1, d2, d3] }
  | _ => none }
def natPowersRow : OpenClaim := { program := "ytbgfebhhejlakaa", sum := "1da521623741945bd8fd475ed8ff8bf65a591d691720db817efd5a9776017faa", func := "chirograph/chirographlaw01.NatPowers", spec := "natPowers", named := ["math/bits.overflowError"], apart := false }
def NatPowersSaid : Prop := natPowersRow.holds Try.pinned (OpenSpec.ofChange natPowersSpec)

/-- ITS FALSE NEIGHBOUR: 'it returns false'. Refute it at one input. -/
def natPowersWrong : ChangeSpec := { name := "natPowers", fn := fun _ => fun
  | [d1, d2, d3] => { results := [.lit (.bool false)], args := [d1, d2, d3] }
  | _ => none }
def NatPowersWrongFalsely : Prop := natPowersRow.holds Try.pinned (OpenSpec.ofChange natPowersWrong)

/-- 'chirographlaw01.NatInverts': WHATEVER THE INPUT: true; the input reads as it did. -/
def natInvertsSpec : ChangeSpec := { name := "natInverts", fn := fun _ => fun
  | [d1, d2] => { results := [.lit (.bool true)], args := [d1, d2] }
  | _ => none }
def natInvertsRow : OpenClaim := { program := "ytbgfebhhejlakaa", sum := "1da521623741945bd8fd475ed8ff8bf65a591d691720db817efd5a9776017faa", func := "chirograph/chirographlaw01.NatInverts", spec := "natInverts", named := ["math/bits.overflowError"], apart := false }
def NatInvertsSaid : Prop := natInvertsRow.holds Try.pinned (OpenSpec.ofChange natInvertsSpec)

/-- ITS FALSE NEIGHBOUR: 'it returns false'. Refute it at one input. -/
def natInvertsWrong : ChangeSpec := { name := "natInverts", fn := fun _ => fun
  | [d1, d2] => { results := [.lit (.bool false)], args := [d1, d2] }
  | _ => none }
def NatInvertsWrongFalsely : Prop := natInvertsRow.holds Try.pinned (OpenSpec.ofChange natInvertsWrong)

/-- 'chirographlaw01.NatRing': WHATEVER THE INPUT: true; the input reads as it did. -/
def natRingSpec : ChangeSpec := { name := "natRing", fn := fun _ => fun
  | [d1, d2, d3] => { results := [.lit (.bool true)], args := [d1, d2, d3] }
  | _ => none }
def natRingRow : OpenClaim := { program := "ytbgfebhhejlakaa", sum := "1da521623741945bd8fd475ed8ff8bf65a591d691720db817efd5a9776017faa", func := "chirograph/chirographlaw01.NatRing", spec := "natRing", named := ["math/bits.overflowError"], apart := false }
def NatRingSaid : Prop := natRingRow.holds Try.pinned (OpenSpec.ofChange natRingSpec)

/-- ITS FALSE NEIGHBOUR: 'it returns false'. Refute it at one input. -/
def natRingWrong : ChangeSpec := { name := "natRing", fn := fun _ => fun
  | [d1, d2, d3] => { results := [.lit (.bool false)], args := [d1, d2, d3] }
  | _ => none }
def NatRingWrongFalsely : Prop := natRingRow.holds Try.pinned (OpenSpec.ofChange natRingWrong)

/-- 'chirographlaw01.NatParts': WHATEVER THE INPUT: true; the input reads as it did. -/
def natPartsSpec : ChangeSpec := { name := "natParts", fn := fun _ => fun
  | [d1, d2] => { results := [.lit (.bool true)], args := [d1, d2] }
  | _ => none }
def natPartsRow : OpenClaim := { program := "ytbgfebhhejlakaa", sum := "1da521623741945bd8fd475ed8ff8bf65a591d691720db817efd5a9776017faa", func := "chirograph/chirographlaw01.NatParts", spec := "natParts", named := ["math/bits.overflowError"], apart := false }
def NatPartsSaid : Prop := natPartsRow.holds Try.pinned (OpenSpec.ofChange natPartsSpec)

/-- ITS FALSE NEIGHBOUR: 'it returns false'. Refute it at one input. -/
def natPartsWrong : ChangeSpec := { name := "natParts", fn := fun _ => fun
  | [d1, d2] => { results := [.lit (.bool false)], args := [d1, d2] }
  | _ => none }
def NatPartsWrongFalsely : Prop := natPartsRow.holds Try.pinned (OpenSpec.ofChange natPartsWrong)

/-- 'chirographlaw01.NatExponents': WHATEVER THE INPUT: true; the input reads as it did. -/
def natExponentsSpec : ChangeSpec := { name := "natExponents", fn := fun _ => fun
  | [d1, d2, d3, d4] => { results := [.lit (.bool true)], args := [d1, d2, d3, d4] }
  | _ => none }
def natExponentsRow : OpenClaim := { program := "ytbgfebhhejlakaa", sum := "1da521623741945bd8fd475ed8ff8bf65a591d691720db817efd5a9776017faa", func := "chirograph/chirographlaw01.NatExponents", spec := "natExponents", named := ["math/bits.overflowError"], apart := false }
def NatExponentsSaid : Prop := natExponentsRow.holds Try.pinned (OpenSpec.ofChange natExponentsSpec)

/-- ITS FALSE NEIGHBOUR: 'it returns false'. Refute it at one input. -/
def natExponentsWrong : ChangeSpec := { name := "natExponents", fn := fun _ => fun
  | [d1, d2, d3, d4] => { results := [.lit (.bool false)], args := [d1, d2, d3, d4] }
  | _ => none }
def NatExponentsWrongFalsely : Prop := natExponentsRow.holds Try.pinned (OpenSpec.ofChange natExponentsWrong)

/-- 'chirographlaw01.NatUndoes': WHATEVER THE INPUT: true; the input reads as it did. -/
def natUndoesSpec : ChangeSpec := { name := "natUndoes", fn := fun _ => fun
  | [d1, d2, d3] => { results := [.lit (.bool true)], args := [d1, d2, d3] }
  | _ => none }
def natUndoesRow : OpenClaim := { program := "ytbgfebhhejlakaa", sum := "1da521623741945bd8fd475ed8ff8bf65a591d691720db817efd5a9776017faa", func := "chirograph/chirographlaw01.NatUndoes", spec := "natUndoes", named := ["math/bits.overflowError"], apart := false }
def NatUndoesSaid : Prop := natUndoesRow.holds Try.pinned (OpenSpec.ofChange natUndoesSpec)

/-- ITS FALSE NEIGHBOUR: 'it returns false'. Refute it at one input. -/
def natUndoesWrong : ChangeSpec := { name := "natUndoes", fn := fun _ => fun
  | [d1, d2, d3] => { results := [.lit (.bool false)], args := [d1, d2, d3] }
  | _ => none }
def NatUndoesWrongFalsely : Prop := natUndoesRow.holds Try.pinned (OpenSpec.ofChange natUndoesWrong)

/-- 'chirographlaw01.NatOwn': WHATEVER THE INPUT: true; the input reads as it did. -/
def natOwnSpec : ChangeSpec := { name := "natOwn", fn := fun _ => fun
  | [d1, d2] => { results := [.lit (.bool true)], args := [d1, d2] }
  | _ => none }
def natOwnRow : OpenClaim := { program := "ytbgfebhhejlakaa", sum := "1da521623741945bd8fd475ed8ff8bf65a591d691720db817efd5a9776017faa", func := "chirograph/chirographlaw01.NatOwn", spec := "natOwn", named := ["math/bits.overflowError"], apart := false }
def NatOwnSaid : Prop := natOwnRow.holds Try.pinned (OpenSpec.ofChange natOwnSpec)

/-- ITS FALSE NEIGHBOUR: 'it returns false'. Refute it at one input. -/
def natOwnWrong : ChangeSpec := { name := "natOwn", fn := fun _ => fun
  | [d1, d2] => { results := [.lit (.bool false)], args := [d1, d2] }
  | _ => none }
def NatOwnWrongFalsely : Prop := natOwnRow.holds Try.pinned (OpenSpec.ofChange natOwnWrong)

/-- 'chirographlaw01.NatBack': WHATEVER THE INPUT: true; the input reads as it did. -/
def natBackSpec : ChangeSpec := { name := "natBack", fn := fun _ => fun
  | [d1, d2] => { results := [.lit (.bool true)], args := [d1, d2] }
  | _ => none }
def natBackRow : OpenClaim := { program := "ytbgfebhhejlakaa", sum := "1da521623741945bd8fd475ed8ff8bf65a591d691720db817efd5a9776017faa", func := "chirograph/chirographlaw01.NatBack", spec := "natBack", named := ["math/bits.overflowError"], apart := false }
def NatBackSaid : Prop := natBackRow.holds Try.pinned (OpenSpec.ofChange natBackSpec)

/-- ITS FALSE NEIGHBOUR: 'it returns false'. Refute it at one input. -/
def natBackWrong : ChangeSpec := { name := "natBack", fn := fun _ => fun
  | [d1, d2] => { results := [.lit (.bool false)], args := [d1, d2] }
  | _ => none }
def NatBackWrongFalsely : Prop := natBackRow.holds Try.pinned (OpenSpec.ofChange natBackWrong)

/-- 'chirographlaw01.NatBytes': WHATEVER THE INPUT: true; the input reads as it did. -/
def natBytesSpec : ChangeSpec := { name := "natBytes", fn := fun _ => fun
  | [d1, d2, d3, d4] => { results := [.lit (.bool true)], args := [d1, d2, d3, d4] }
  | _ => none }
def natBytesRow : OpenClaim := { program := "ytbgfebhhejlakaa", sum := "1da521623741945bd8fd475ed8ff8bf65a591d691720db817efd5a9776017faa", func := "chirograph/chirographlaw01.NatBytes", spec := "natBytes", named := ["math/bits.overflowError"], apart := false }
def NatBytesSaid : Prop := natBytesRow.holds Try.pinned (OpenSpec.ofChange natBytesSpec)

/-- ITS FALSE NEIGHBOUR: 'it returns false'. Refute it at one input. -/
def natBytesWrong : ChangeSpec := { name := "natBytes", fn := fun _ => fun
  | [d1, d2, d3, d4] => { results := [.lit (.bool false)], args := [d1, d2, d3, d4] }
  | _ => none }
def NatBytesWrongFalsely : Prop := natBytesRow.holds Try.pinned (OpenSpec.ofChange natBytesWrong)

/- THE SECOND FORM. 'bulk': how many values and letters a reading holds, each counted each time it is reached (what is shared counts as often as it is met; a slice's spare places count too). A statement '..UptoSaid' is the law's where the arguments, and the package variables that the reading takes, are together of bulk at most 1048576: NARROWER than '..Said'. Prove '..Said' where nothing that the law and all that it calls make is longer than what came in: it says more and counts as full. Else prove '..UptoSaid'. A law counts once. -/
mutual
def uptoBulk {H : Type} : DataW H → Nat
  | .lit (.string bytes) => bytes.length + 1
  | .lit _ => 1
  | .nil => 1
  | .ptr d => uptoBulk d + 1
  | .slice elems spare => uptoBulkAll elems + uptoBulkAll spare + 1
  | .agg parts => uptoBulkAll parts + 1
  | .iface _ d => uptoBulk d + 1
  | .map entries => uptoBulkEntries entries + 1
  | .held _ => 1
def uptoBulkAll {H : Type} : List (DataW H) → Nat
  | [] => 0
  | d :: r => uptoBulk d + uptoBulkAll r
def uptoBulkEntries {H : Type} : List (Lit × DataW H) → Nat
  | [] => 0
  | x :: r => uptoBulkEntry x + uptoBulkEntries r
def uptoBulkEntry {H : Type} : Lit × DataW H → Nat
  | (.string bytes, d) => bytes.length + uptoBulk d + 1
  | (_, d) => uptoBulk d + 1
 end
def uptoSmall : (H : Type) → List (DataW H) → Bool := fun _ ds => decide (uptoBulkAll ds ≤ 1048576)
def OpenSpec.upto (s : _root_.Go.ChangeSpec) : _root_.Go.OpenSpec := { _root_.Go.OpenSpec.ofChange s with cond := some uptoSmall }

/-- 'chirographlaw01.NatAdds', WHERE WHAT IT READS IS OF BULK AT MOST 1048576: true; the input reads as it did. -/
def natAddsUptoRow : OpenClaim := { program := "ytbgfebhhejlakaa", sum := "1da521623741945bd8fd475ed8ff8bf65a591d691720db817efd5a9776017faa", func := "chirograph/chirographlaw01.NatAdds", spec := "natAdds", named := ["math/bits.overflowError"], apart := false, narrowed := true }
def NatAddsUptoSaid : Prop := natAddsUptoRow.holds Try.pinned (OpenSpec.upto natAddsSpec)

/-- 'chirographlaw01.NatMuls', WHERE WHAT IT READS IS OF BULK AT MOST 1048576: true; the input reads as it did. -/
def natMulsUptoRow : OpenClaim := { program := "ytbgfebhhejlakaa", sum := "1da521623741945bd8fd475ed8ff8bf65a591d691720db817efd5a9776017faa", func := "chirograph/chirographlaw01.NatMuls", spec := "natMuls", named := ["math/bits.overflowError"], apart := false, narrowed := true }
def NatMulsUptoSaid : Prop := natMulsUptoRow.holds Try.pinned (OpenSpec.upto natMulsSpec)

/-- 'chirographlaw01.NatDivs', WHERE WHAT IT READS IS OF BULK AT MOST 1048576: true; the input reads as it did. -/
def natDivsUptoRow : OpenClaim := { program := "ytbgfebhhejlakaa", sum := "1da521623741945bd8fd475ed8ff8bf65a591d691720db817efd5a9776017faa", func := "chirograph/chirographlaw01.NatDivs", spec := "natDivs", named := ["math/bits.overflowError"], apart := false, narrowed := true }
def NatDivsUptoSaid : Prop := natDivsUptoRow.holds Try.pinned (OpenSpec.upto natDivsSpec)

/-- 'chirographlaw01.NatPowers', WHERE WHAT IT READS IS OF BULK AT MOST 1048576: true; the input reads as it did. -/
def natPowersUptoRow : OpenClaim := { program := "ytbgfebhhejlakaa", sum := "1da521623741945bd8fd475ed8ff8bf65a591d691720db817efd5a9776017faa", func := "chirograph/chirographlaw01.NatPowers", spec := "natPowers", named := ["math/bits.overflowError"], apart := false, narrowed := true }
def NatPowersUptoSaid : Prop := natPowersUptoRow.holds Try.pinned (OpenSpec.upto natPowersSpec)

/-- 'chirographlaw01.NatInverts', WHERE WHAT IT READS IS OF BULK AT MOST 1048576: true; the input reads as it did. -/
def natInvertsUptoRow : OpenClaim := { program := "ytbgfebhhejlakaa", sum := "1da521623741945bd8fd475ed8ff8bf65a591d691720db817efd5a9776017faa", func := "chirograph/chirographlaw01.NatInverts", spec := "natInverts", named := ["math/bits.overflowError"], apart := false, narrowed := true }
def NatInvertsUptoSaid : Prop := natInvertsUptoRow.holds Try.pinned (OpenSpec.upto natInvertsSpec)

/-- 'chirographlaw01.NatRing', WHERE WHAT IT READS IS OF BULK AT MOST 1048576: true; the input reads as it did. -/
def natRingUptoRow : OpenClaim := { program := "ytbgfebhhejlakaa", sum := "1da521623741945bd8fd475ed8ff8bf65a591d691720db817efd5a9776017faa", func := "chirograph/chirographlaw01.NatRing", spec := "natRing", named := ["math/bits.overflowError"], apart := false, narrowed := true }
def NatRingUptoSaid : Prop := natRingUptoRow.holds Try.pinned (OpenSpec.upto natRingSpec)

/-- 'chirographlaw01.NatParts', WHERE WHAT IT READS IS OF BULK AT MOST 1048576: true; the input reads as it did. -/
def natPartsUptoRow : OpenClaim := { program := "ytbgfebhhejlakaa", sum := "1da521623741945bd8fd475ed8ff8bf65a591d691720db817efd5a9776017faa", func := "chirograph/chirographlaw01.NatParts", spec := "natParts", named := ["math/bits.overflowError"], apart := false, narrowed := true }
def NatPartsUptoSaid : Prop := natPartsUptoRow.holds Try.pinned (OpenSpec.upto natPartsSpec)

/-- 'chirographlaw01.NatExponents', WHERE WHAT IT READS IS OF BULK AT MOST 1048576: true; the input reads as it did. -/
def natExponentsUptoRow : OpenClaim := { program := "ytbgfebhhejlakaa", sum := "1da521623741945bd8fd475ed8ff8bf65a591d691720db817efd5a9776017faa", func := "chirograph/chirographlaw01.NatExponents", spec := "natExponents", named := ["math/bits.overflowError"], apart := false, narrowed := true }
def NatExponentsUptoSaid : Prop := natExponentsUptoRow.holds Try.pinned (OpenSpec.upto natExponentsSpec)

/-- 'chirographlaw01.NatUndoes', WHERE WHAT IT READS IS OF BULK AT MOST 1048576: true; the input reads as it did. -/
def natUndoesUptoRow : OpenClaim := { program := "ytbgfebhhejlakaa", sum := "1da521623741945bd8fd475ed8ff8bf65a591d691720db817efd5a9776017faa", func := "chirograph/chirographlaw01.NatUndoes", spec := "natUndoes", named := ["math/bits.overflowError"], apart := false, narrowed := true }
def NatUndoesUptoSaid : Prop := natUndoesUptoRow.holds Try.pinned (OpenSpec.upto natUndoesSpec)

/-- 'chirographlaw01.NatOwn', WHERE WHAT IT READS IS OF BULK AT MOST 1048576: true; the input reads as it did. -/
def natOwnUptoRow : OpenClaim := { program := "ytbgfebhhejlakaa", sum := "1da521623741945bd8fd475ed8ff8bf65a591d691720db817efd5a9776017faa", func := "chirograph/chirographlaw01.NatOwn", spec := "natOwn", named := ["math/bits.overflowError"], apart := false, narrowed := true }
def NatOwnUptoSaid : Prop := natOwnUptoRow.holds Try.pinned (OpenSpec.upto natOwnSpec)

/-- 'chirographlaw01.NatBack', WHERE WHAT IT READS IS OF BULK AT MOST 1048576: true; the input reads as it did. -/
def natBackUptoRow : OpenClaim := { program := "ytbgfebhhejlakaa", sum := "1da521623741945bd8fd475ed8ff8bf65a591d691720db817efd5a9776017faa", func := "chirograph/chirographlaw01.NatBack", spec := "natBack", named := ["math/bits.overflowError"], apart := false, narrowed := true }
def NatBackUptoSaid : Prop := natBackUptoRow.holds Try.pinned (OpenSpec.upto natBackSpec)

/-- 'chirographlaw01.NatBytes', WHERE WHAT IT READS IS OF BULK AT MOST 1048576: true; the input reads as it did. -/
def natBytesUptoRow : OpenClaim := { program := "ytbgfebhhejlakaa", sum := "1da521623741945bd8fd475ed8ff8bf65a591d691720db817efd5a9776017faa", func := "chirograph/chirographlaw01.NatBytes", spec := "natBytes", named := ["math/bits.overflowError"], apart := false, narrowed := true }
def NatBytesUptoSaid : Prop := natBytesUptoRow.holds Try.pinned (OpenSpec.upto natBytesSpec)

end Rows
end Go.Proofs.Ytbgfebhhejlakaa
