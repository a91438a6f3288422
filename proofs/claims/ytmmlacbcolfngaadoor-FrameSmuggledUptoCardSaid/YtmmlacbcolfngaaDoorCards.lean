/-
  DERIVED. GIVEN WITH THE SEED: THE CARDS: each row of YtmmlacbcolfngaaDoorRows.lean that lists a variable, with what it lists TIED to the program's text (the seventh form; the later family's looks); each row that meets fmt, with fmt's text TOLD by the authors' own Lean function (tested against real Go, not proved from fmt's source: count such statements apart). THE CARD IS WHAT COUNTS. Prove the row's statement (the work); the ties are given (YtmmlacbcolfngaaDoorTie.lean); close each card by the builder's one call (the guide's Derived/Test/ToyasCard.lean, 'card_holds'). Laid BY PROGRAM, IN A SANDBOX (cutbox-door.mjs). By AI agents, Wed Nov 11 2026. No macro, syntax, notation, axiom, sorry.
-/
import Derived.Test.YtmmlacbcolfngaaDoorRows
import GoSem.ClaimSeven
namespace Go.Proofs.YtmmlacbcolfngaaDoor
namespace Rows

/-- THE TIED CARD OF 'turnstilelaw09.HeadBack'. -/
def headBackCard : Claim7 := { stood := { row := headBackRow, standIns := [], harness := (true, "df2a70c91ddcb4249ec4519b8639c209b9265cce59df7cbbdc6b32235b6c8b23"), looks := true }, kinds := [], alts := [], laidByText := true, laidKinds := [.data, .pinned], laidTests := true, laidLooks := .later }
def HeadBackCardSaid : Prop := Claim7.holds Tryd.pinned (.plain (OpenSpec.ofChange headBackSpec)) headBackCard

/-- THE TIED CARD OF 'turnstilelaw11.FrameBack'. -/
def frameBackCard : Claim7 := { stood := { row := frameBackRow, standIns := [], harness := (true, "df2a70c91ddcb4249ec4519b8639c209b9265cce59df7cbbdc6b32235b6c8b23"), looks := true }, kinds := [], alts := [], laidByText := true, laidKinds := [.data, .pinned], laidTests := true, laidLooks := .later }
def FrameBackCardSaid : Prop := Claim7.holds Tryd.pinned (.plain (OpenSpec.ofChange frameBackSpec)) frameBackCard

/-- THE TIED CARD OF 'turnstilelaw09.HeadSizes'. -/
def headSizesCard : Claim7 := { stood := { row := headSizesRow, standIns := [], harness := (true, "df2a70c91ddcb4249ec4519b8639c209b9265cce59df7cbbdc6b32235b6c8b23"), looks := true }, kinds := [], alts := [], laidByText := true, laidKinds := [.data, .handle, .pinned], laidTests := true, laidLooks := .later }
def HeadSizesCardSaid : Prop := Claim7.holds Tryd.pinned (.plain (OpenSpec.ofChange headSizesSpec)) headSizesCard

/-- THE TIED CARD OF 'turnstilelaw09.HeadBare'. -/
def headBareCard : Claim7 := { stood := { row := headBareRow, standIns := [], harness := (true, "df2a70c91ddcb4249ec4519b8639c209b9265cce59df7cbbdc6b32235b6c8b23"), looks := true }, kinds := [], alts := [], laidByText := true, laidKinds := [.data, .handle, .pinned], laidTests := true, laidLooks := .later }
def HeadBareCardSaid : Prop := Claim7.holds Tryd.pinned (.plain (OpenSpec.ofChange headBareSpec)) headBareCard

/-- THE TIED CARD OF 'turnstilelaw09.HeadCuts'. -/
def headCutsCard : Claim7 := { stood := { row := headCutsRow, standIns := [], harness := (true, "df2a70c91ddcb4249ec4519b8639c209b9265cce59df7cbbdc6b32235b6c8b23"), looks := true }, kinds := [], alts := [], laidByText := true, laidKinds := [.data, .handle, .pinned], laidTests := true, laidLooks := .later }
def HeadCutsCardSaid : Prop := Claim7.holds Tryd.pinned (.plain (OpenSpec.ofChange headCutsSpec)) headCutsCard

/-- THE TIED CARD OF 'turnstilelaw11.FrameSmuggled'. -/
def frameSmuggledCard : Claim7 := { stood := { row := frameSmuggledRow, standIns := [], harness := (true, "df2a70c91ddcb4249ec4519b8639c209b9265cce59df7cbbdc6b32235b6c8b23"), looks := true }, kinds := [], alts := [], laidByText := true, laidKinds := [.data, .handle, .pinned], laidTests := true, laidLooks := .later }
def FrameSmuggledCardSaid : Prop := Claim7.holds Tryd.pinned (.plain (OpenSpec.ofChange frameSmuggledSpec)) frameSmuggledCard

/-- THE TIED CARD OF 'turnstilelaw11.FrameMessages'. -/
def frameMessagesCard : Claim7 := { stood := { row := frameMessagesRow, standIns := [], harness := (true, "df2a70c91ddcb4249ec4519b8639c209b9265cce59df7cbbdc6b32235b6c8b23"), looks := true }, kinds := [], alts := [], laidByText := true, laidKinds := [.data, .handle, .pinned], laidTests := true, laidLooks := .later }
def FrameMessagesCardSaid : Prop := Claim7.holds Tryd.pinned (.plain (OpenSpec.ofChange frameMessagesSpec)) frameMessagesCard

/-- THE TIED CARD OF 'turnstilelaw11.FrameFields'. -/
def frameFieldsCard : Claim7 := { stood := { row := frameFieldsRow, standIns := [], harness := (true, "df2a70c91ddcb4249ec4519b8639c209b9265cce59df7cbbdc6b32235b6c8b23"), looks := true }, kinds := [], alts := [], laidByText := true, laidKinds := [.data, .handle, .pinned], laidTests := true, laidLooks := .later }
def FrameFieldsCardSaid : Prop := Claim7.holds Tryd.pinned (.plain (OpenSpec.ofChange frameFieldsSpec)) frameFieldsCard

/-- THE TIED CARD OF 'turnstilelaw09.HeadFields'. -/
def headFieldsCard : Claim7 := { stood := { row := headFieldsRow, standIns := [], harness := (true, "df2a70c91ddcb4249ec4519b8639c209b9265cce59df7cbbdc6b32235b6c8b23"), looks := true }, kinds := [], alts := [], laidByText := true, laidKinds := [.data, .handle, .pinned], laidTests := true, laidLooks := .later }
def HeadFieldsCardSaid : Prop := Claim7.holds Tryd.pinned (.plain (OpenSpec.ofChange headFieldsSpec)) headFieldsCard

/-- THE SECOND FORM's CARD OF 'turnstilelaw09.HeadBack'. -/
def headBackUptoCard : Claim7 := { stood := { row := headBackUptoRow, standIns := [], harness := (true, "df2a70c91ddcb4249ec4519b8639c209b9265cce59df7cbbdc6b32235b6c8b23"), looks := true }, kinds := [], alts := [], laidByText := true, laidKinds := [.data, .pinned], laidTests := true, laidLooks := .later }
def HeadBackUptoCardSaid : Prop := Claim7.holds Tryd.pinned (.plain (OpenSpec.upto headBackSpec)) headBackUptoCard

/-- THE SECOND FORM's CARD OF 'turnstilelaw11.FrameBack'. -/
def frameBackUptoCard : Claim7 := { stood := { row := frameBackUptoRow, standIns := [], harness := (true, "df2a70c91ddcb4249ec4519b8639c209b9265cce59df7cbbdc6b32235b6c8b23"), looks := true }, kinds := [], alts := [], laidByText := true, laidKinds := [.data, .pinned], laidTests := true, laidLooks := .later }
def FrameBackUptoCardSaid : Prop := Claim7.holds Tryd.pinned (.plain (OpenSpec.upto frameBackSpec)) frameBackUptoCard

/-- THE SECOND FORM's CARD OF 'turnstilelaw09.HeadSizes'. -/
def headSizesUptoCard : Claim7 := { stood := { row := headSizesUptoRow, standIns := [], harness := (true, "df2a70c91ddcb4249ec4519b8639c209b9265cce59df7cbbdc6b32235b6c8b23"), looks := true }, kinds := [], alts := [], laidByText := true, laidKinds := [.data, .handle, .pinned], laidTests := true, laidLooks := .later }
def HeadSizesUptoCardSaid : Prop := Claim7.holds Tryd.pinned (.plain (OpenSpec.upto headSizesSpec)) headSizesUptoCard

/-- THE SECOND FORM's CARD OF 'turnstilelaw09.HeadBare'. -/
def headBareUptoCard : Claim7 := { stood := { row := headBareUptoRow, standIns := [], harness := (true, "df2a70c91ddcb4249ec4519b8639c209b9265cce59df7cbbdc6b32235b6c8b23"), looks := true }, kinds := [], alts := [], laidByText := true, laidKinds := [.data, .handle, .pinned], laidTests := true, laidLooks := .later }
def HeadBareUptoCardSaid : Prop := Claim7.holds Tryd.pinned (.plain (OpenSpec.upto headBareSpec)) headBareUptoCard

/-- THE SECOND FORM's CARD OF 'turnstilelaw09.HeadCuts'. -/
def headCutsUptoCard : Claim7 := { stood := { row := headCutsUptoRow, standIns := [], harness := (true, "df2a70c91ddcb4249ec4519b8639c209b9265cce59df7cbbdc6b32235b6c8b23"), looks := true }, kinds := [], alts := [], laidByText := true, laidKinds := [.data, .handle, .pinned], laidTests := true, laidLooks := .later }
def HeadCutsUptoCardSaid : Prop := Claim7.holds Tryd.pinned (.plain (OpenSpec.upto headCutsSpec)) headCutsUptoCard

/-- THE SECOND FORM's CARD OF 'turnstilelaw11.FrameSmuggled'. -/
def frameSmuggledUptoCard : Claim7 := { stood := { row := frameSmuggledUptoRow, standIns := [], harness := (true, "df2a70c91ddcb4249ec4519b8639c209b9265cce59df7cbbdc6b32235b6c8b23"), looks := true }, kinds := [], alts := [], laidByText := true, laidKinds := [.data, .handle, .pinned], laidTests := true, laidLooks := .later }
def FrameSmuggledUptoCardSaid : Prop := Claim7.holds Tryd.pinned (.plain (OpenSpec.upto frameSmuggledSpec)) frameSmuggledUptoCard

/-- THE SECOND FORM's CARD OF 'turnstilelaw11.FrameMessages'. -/
def frameMessagesUptoCard : Claim7 := { stood := { row := frameMessagesUptoRow, standIns := [], harness := (true, "df2a70c91ddcb4249ec4519b8639c209b9265cce59df7cbbdc6b32235b6c8b23"), looks := true }, kinds := [], alts := [], laidByText := true, laidKinds := [.data, .handle, .pinned], laidTests := true, laidLooks := .later }
def FrameMessagesUptoCardSaid : Prop := Claim7.holds Tryd.pinned (.plain (OpenSpec.upto frameMessagesSpec)) frameMessagesUptoCard

/-- THE SECOND FORM's CARD OF 'turnstilelaw11.FrameFields'. -/
def frameFieldsUptoCard : Claim7 := { stood := { row := frameFieldsUptoRow, standIns := [], harness := (true, "df2a70c91ddcb4249ec4519b8639c209b9265cce59df7cbbdc6b32235b6c8b23"), looks := true }, kinds := [], alts := [], laidByText := true, laidKinds := [.data, .handle, .pinned], laidTests := true, laidLooks := .later }
def FrameFieldsUptoCardSaid : Prop := Claim7.holds Tryd.pinned (.plain (OpenSpec.upto frameFieldsSpec)) frameFieldsUptoCard

/-- THE SECOND FORM's CARD OF 'turnstilelaw09.HeadFields'. -/
def headFieldsUptoCard : Claim7 := { stood := { row := headFieldsUptoRow, standIns := [], harness := (true, "df2a70c91ddcb4249ec4519b8639c209b9265cce59df7cbbdc6b32235b6c8b23"), looks := true }, kinds := [], alts := [], laidByText := true, laidKinds := [.data, .handle, .pinned], laidTests := true, laidLooks := .later }
def HeadFieldsUptoCardSaid : Prop := Claim7.holds Tryd.pinned (.plain (OpenSpec.upto headFieldsSpec)) headFieldsUptoCard
end Rows
end Go.Proofs.YtmmlacbcolfngaaDoor
