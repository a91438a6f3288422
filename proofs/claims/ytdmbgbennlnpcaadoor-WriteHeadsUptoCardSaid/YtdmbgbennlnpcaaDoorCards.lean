/-
  DERIVED. GIVEN WITH THE SEED: THE CARDS: each row of YtdmbgbennlnpcaaDoorRows.lean that lists a variable, with what it lists TIED to the program's text (the seventh form; the later family's looks); each row that meets fmt, with fmt's text TOLD by the authors' own Lean function (tested against real Go, not proved from fmt's source: count such statements apart). THE CARD IS WHAT COUNTS. Prove the row's statement (the work); the ties are given (YtdmbgbennlnpcaaDoorTie.lean); close each card by the builder's one call (the guide's Derived/Test/ToyasCard.lean, 'card_holds'). Laid BY PROGRAM, IN A SANDBOX (cutbox-door.mjs). By AI agents, Wed Nov 11 2026. No macro, syntax, notation, axiom, sorry.
-/
import Derived.Test.YtdmbgbennlnpcaaDoorRows
import GoSem.ClaimSeven
namespace Go.Proofs.YtdmbgbennlnpcaaDoor
namespace Rows

/-- THE TIED CARD OF 'turnstilelaw10.WriteLocals'. -/
def writeLocalsCard : Claim7 := { stood := { row := writeLocalsRow, standIns := [], harness := (true, "bcc02baec4a6e988f60f68c949f6a8b6e7d09fc2a83f20bcf404090d1c815518"), looks := true }, kinds := [], alts := [], laidByText := true, laidKinds := [.data, .data, .data, .data, .pinned], laidTests := true, laidLooks := .later }
def WriteLocalsCardSaid : Prop := Claim7.holds Tryd.pinned (.plain (OpenSpec.ofChange writeLocalsSpec)) writeLocalsCard

/-- THE TIED CARD OF 'turnstilelaw10.WriteApart'. -/
def writeApartCard : Claim7 := { stood := { row := writeApartRow, standIns := [], harness := (true, "bcc02baec4a6e988f60f68c949f6a8b6e7d09fc2a83f20bcf404090d1c815518"), looks := true }, kinds := [], alts := [], laidByText := true, laidKinds := [.data, .data, .data, .data, .pinned], laidTests := true, laidLooks := .later }
def WriteApartCardSaid : Prop := Claim7.holds Tryd.pinned (.plain (OpenSpec.ofChange writeApartSpec)) writeApartCard

/-- THE TIED CARD OF 'turnstilelaw10.WriteHeads'. -/
def writeHeadsCard : Claim7 := { stood := { row := writeHeadsRow, standIns := [], harness := (true, "bcc02baec4a6e988f60f68c949f6a8b6e7d09fc2a83f20bcf404090d1c815518"), looks := true }, kinds := [], alts := [], laidByText := true, laidKinds := [.data, .data, .data, .data, .pinned], laidTests := true, laidLooks := .later }
def WriteHeadsCardSaid : Prop := Claim7.holds Tryd.pinned (.plain (OpenSpec.ofChange writeHeadsSpec)) writeHeadsCard

/-- THE TIED CARD OF 'turnstilelaw10.WriteFields'. -/
def writeFieldsCard : Claim7 := { stood := { row := writeFieldsRow, standIns := [], harness := (true, "bcc02baec4a6e988f60f68c949f6a8b6e7d09fc2a83f20bcf404090d1c815518"), looks := true }, kinds := [], alts := [], laidByText := true, laidKinds := [.data, .data, .data, .data, .pinned], laidTests := true, laidLooks := .later }
def WriteFieldsCardSaid : Prop := Claim7.holds Tryd.pinned (.plain (OpenSpec.ofChange writeFieldsSpec)) writeFieldsCard

/-- THE TIED CARD OF 'turnstilelaw14.HopsEnds'. -/
def hopsEndsCard : Claim7 := { stood := { row := hopsEndsRow, standIns := [], harness := (true, "bcc02baec4a6e988f60f68c949f6a8b6e7d09fc2a83f20bcf404090d1c815518"), looks := true }, kinds := [], alts := [], laidByText := true, laidKinds := [.data, .data, .data, .data, .pinned], laidTests := true, laidLooks := .later }
def HopsEndsCardSaid : Prop := Claim7.holds Tryd.pinned (.plain (OpenSpec.ofChange hopsEndsSpec)) hopsEndsCard

/-- THE TIED CARD OF 'turnstilelaw10.WriteBack'. -/
def writeBackCard : Claim7 := { stood := { row := writeBackRow, standIns := [], harness := (true, "bcc02baec4a6e988f60f68c949f6a8b6e7d09fc2a83f20bcf404090d1c815518"), looks := true }, kinds := [], alts := [], laidByText := true, laidKinds := [.data, .data, .data, .data, .pinned], laidTests := true, laidLooks := .later }
def WriteBackCardSaid : Prop := Claim7.holds Tryd.pinned (.plain (OpenSpec.ofChange writeBackSpec)) writeBackCard

/-- THE SECOND FORM's CARD OF 'turnstilelaw10.WriteLocals'. -/
def writeLocalsUptoCard : Claim7 := { stood := { row := writeLocalsUptoRow, standIns := [], harness := (true, "bcc02baec4a6e988f60f68c949f6a8b6e7d09fc2a83f20bcf404090d1c815518"), looks := true }, kinds := [], alts := [], laidByText := true, laidKinds := [.data, .data, .data, .data, .pinned], laidTests := true, laidLooks := .later }
def WriteLocalsUptoCardSaid : Prop := Claim7.holds Tryd.pinned (.plain (OpenSpec.upto writeLocalsSpec)) writeLocalsUptoCard

/-- THE SECOND FORM's CARD OF 'turnstilelaw10.WriteApart'. -/
def writeApartUptoCard : Claim7 := { stood := { row := writeApartUptoRow, standIns := [], harness := (true, "bcc02baec4a6e988f60f68c949f6a8b6e7d09fc2a83f20bcf404090d1c815518"), looks := true }, kinds := [], alts := [], laidByText := true, laidKinds := [.data, .data, .data, .data, .pinned], laidTests := true, laidLooks := .later }
def WriteApartUptoCardSaid : Prop := Claim7.holds Tryd.pinned (.plain (OpenSpec.upto writeApartSpec)) writeApartUptoCard

/-- THE SECOND FORM's CARD OF 'turnstilelaw10.WriteHeads'. -/
def writeHeadsUptoCard : Claim7 := { stood := { row := writeHeadsUptoRow, standIns := [], harness := (true, "bcc02baec4a6e988f60f68c949f6a8b6e7d09fc2a83f20bcf404090d1c815518"), looks := true }, kinds := [], alts := [], laidByText := true, laidKinds := [.data, .data, .data, .data, .pinned], laidTests := true, laidLooks := .later }
def WriteHeadsUptoCardSaid : Prop := Claim7.holds Tryd.pinned (.plain (OpenSpec.upto writeHeadsSpec)) writeHeadsUptoCard

/-- THE SECOND FORM's CARD OF 'turnstilelaw10.WriteFields'. -/
def writeFieldsUptoCard : Claim7 := { stood := { row := writeFieldsUptoRow, standIns := [], harness := (true, "bcc02baec4a6e988f60f68c949f6a8b6e7d09fc2a83f20bcf404090d1c815518"), looks := true }, kinds := [], alts := [], laidByText := true, laidKinds := [.data, .data, .data, .data, .pinned], laidTests := true, laidLooks := .later }
def WriteFieldsUptoCardSaid : Prop := Claim7.holds Tryd.pinned (.plain (OpenSpec.upto writeFieldsSpec)) writeFieldsUptoCard

/-- THE SECOND FORM's CARD OF 'turnstilelaw14.HopsEnds'. -/
def hopsEndsUptoCard : Claim7 := { stood := { row := hopsEndsUptoRow, standIns := [], harness := (true, "bcc02baec4a6e988f60f68c949f6a8b6e7d09fc2a83f20bcf404090d1c815518"), looks := true }, kinds := [], alts := [], laidByText := true, laidKinds := [.data, .data, .data, .data, .pinned], laidTests := true, laidLooks := .later }
def HopsEndsUptoCardSaid : Prop := Claim7.holds Tryd.pinned (.plain (OpenSpec.upto hopsEndsSpec)) hopsEndsUptoCard

/-- THE SECOND FORM's CARD OF 'turnstilelaw10.WriteBack'. -/
def writeBackUptoCard : Claim7 := { stood := { row := writeBackUptoRow, standIns := [], harness := (true, "bcc02baec4a6e988f60f68c949f6a8b6e7d09fc2a83f20bcf404090d1c815518"), looks := true }, kinds := [], alts := [], laidByText := true, laidKinds := [.data, .data, .data, .data, .pinned], laidTests := true, laidLooks := .later }
def WriteBackUptoCardSaid : Prop := Claim7.holds Tryd.pinned (.plain (OpenSpec.upto writeBackSpec)) writeBackUptoCard
end Rows
end Go.Proofs.YtdmbgbennlnpcaaDoor
