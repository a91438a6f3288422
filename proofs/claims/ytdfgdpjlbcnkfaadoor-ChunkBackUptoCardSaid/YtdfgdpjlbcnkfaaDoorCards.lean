/-
  DERIVED. GIVEN WITH THE SEED: THE CARDS: each row of YtdfgdpjlbcnkfaaDoorRows.lean that lists a variable, with what it lists TIED to the program's text (the seventh form; the later family's looks); each row that meets fmt, with fmt's text TOLD by the authors' own Lean function (tested against real Go, not proved from fmt's source: count such statements apart). THE CARD IS WHAT COUNTS. Prove the row's statement (the work); the ties are given (YtdfgdpjlbcnkfaaDoorTie.lean); close each card by the builder's one call (the guide's Derived/Test/ToyasCard.lean, 'card_holds'). Laid BY PROGRAM, IN A SANDBOX (cutbox-door.mjs). By AI agents, Wed Nov 11 2026. No macro, syntax, notation, axiom, sorry.
-/
import Derived.Test.YtdfgdpjlbcnkfaaDoorRows
import GoSem.ClaimSeven
namespace Go.Proofs.YtdfgdpjlbcnkfaaDoor
namespace Rows

/-- THE TIED CARD OF 'turnstilelaw13.BodyBack'. -/
def bodyBackCard : Claim7 := { stood := { row := bodyBackRow, standIns := [], harness := (true, "3e6ce5c1b26933957b1356da9fc076b70ddbe809a491c7658defbdcdf85982bb"), looks := true }, kinds := [], alts := [], laidByText := true, laidKinds := [.data, .pinned], laidTests := true, laidLooks := .later }
def BodyBackCardSaid : Prop := Claim7.holds Tryd.pinned (.plain (OpenSpec.ofChange bodyBackSpec)) bodyBackCard

/-- THE TIED CARD OF 'turnstilelaw12.ChunkCuts'. -/
def chunkCutsCard : Claim7 := { stood := { row := chunkCutsRow, standIns := [], harness := (true, "3e6ce5c1b26933957b1356da9fc076b70ddbe809a491c7658defbdcdf85982bb"), looks := true }, kinds := [], alts := [], laidByText := true, laidKinds := [.data, .data, .data, .data, .pinned], laidTests := true, laidLooks := .later }
def ChunkCutsCardSaid : Prop := Claim7.holds Tryd.pinned (.plain (OpenSpec.ofChange chunkCutsSpec)) chunkCutsCard

/-- THE TIED CARD OF 'turnstilelaw12.ChunkApart'. -/
def chunkApartCard : Claim7 := { stood := { row := chunkApartRow, standIns := [], harness := (true, "3e6ce5c1b26933957b1356da9fc076b70ddbe809a491c7658defbdcdf85982bb"), looks := true }, kinds := [], alts := [], laidByText := true, laidKinds := [.data, .data, .data, .data, .pinned], laidTests := true, laidLooks := .later }
def ChunkApartCardSaid : Prop := Claim7.holds Tryd.pinned (.plain (OpenSpec.ofChange chunkApartSpec)) chunkApartCard

/-- THE TIED CARD OF 'turnstilelaw13.BodyLimits'. -/
def bodyLimitsCard : Claim7 := { stood := { row := bodyLimitsRow, standIns := [], harness := (true, "3e6ce5c1b26933957b1356da9fc076b70ddbe809a491c7658defbdcdf85982bb"), looks := true }, kinds := [], alts := [], laidByText := true, laidKinds := [.data, .handle, .pinned], laidTests := true, laidLooks := .later }
def BodyLimitsCardSaid : Prop := Claim7.holds Tryd.pinned (.plain (OpenSpec.ofChange bodyLimitsSpec)) bodyLimitsCard

/-- THE TIED CARD OF 'turnstilelaw13.BodyCuts'. -/
def bodyCutsCard : Claim7 := { stood := { row := bodyCutsRow, standIns := [], harness := (true, "3e6ce5c1b26933957b1356da9fc076b70ddbe809a491c7658defbdcdf85982bb"), looks := true }, kinds := [], alts := [], laidByText := true, laidKinds := [.data, .handle, .pinned], laidTests := true, laidLooks := .later }
def BodyCutsCardSaid : Prop := Claim7.holds Tryd.pinned (.plain (OpenSpec.ofChange bodyCutsSpec)) bodyCutsCard

/-- THE TIED CARD OF 'turnstilelaw12.ChunkBack'. -/
def chunkBackCard : Claim7 := { stood := { row := chunkBackRow, standIns := [], harness := (true, "3e6ce5c1b26933957b1356da9fc076b70ddbe809a491c7658defbdcdf85982bb"), looks := true }, kinds := [], alts := [], laidByText := true, laidKinds := [.data, .data, .data, .data, .pinned], laidTests := true, laidLooks := .later }
def ChunkBackCardSaid : Prop := Claim7.holds Tryd.pinned (.plain (OpenSpec.ofChange chunkBackSpec)) chunkBackCard

/-- THE SECOND FORM's CARD OF 'turnstilelaw13.BodyBack'. -/
def bodyBackUptoCard : Claim7 := { stood := { row := bodyBackUptoRow, standIns := [], harness := (true, "3e6ce5c1b26933957b1356da9fc076b70ddbe809a491c7658defbdcdf85982bb"), looks := true }, kinds := [], alts := [], laidByText := true, laidKinds := [.data, .pinned], laidTests := true, laidLooks := .later }
def BodyBackUptoCardSaid : Prop := Claim7.holds Tryd.pinned (.plain (OpenSpec.upto bodyBackSpec)) bodyBackUptoCard

/-- THE SECOND FORM's CARD OF 'turnstilelaw12.ChunkCuts'. -/
def chunkCutsUptoCard : Claim7 := { stood := { row := chunkCutsUptoRow, standIns := [], harness := (true, "3e6ce5c1b26933957b1356da9fc076b70ddbe809a491c7658defbdcdf85982bb"), looks := true }, kinds := [], alts := [], laidByText := true, laidKinds := [.data, .data, .data, .data, .pinned], laidTests := true, laidLooks := .later }
def ChunkCutsUptoCardSaid : Prop := Claim7.holds Tryd.pinned (.plain (OpenSpec.upto chunkCutsSpec)) chunkCutsUptoCard

/-- THE SECOND FORM's CARD OF 'turnstilelaw12.ChunkApart'. -/
def chunkApartUptoCard : Claim7 := { stood := { row := chunkApartUptoRow, standIns := [], harness := (true, "3e6ce5c1b26933957b1356da9fc076b70ddbe809a491c7658defbdcdf85982bb"), looks := true }, kinds := [], alts := [], laidByText := true, laidKinds := [.data, .data, .data, .data, .pinned], laidTests := true, laidLooks := .later }
def ChunkApartUptoCardSaid : Prop := Claim7.holds Tryd.pinned (.plain (OpenSpec.upto chunkApartSpec)) chunkApartUptoCard

/-- THE SECOND FORM's CARD OF 'turnstilelaw13.BodyLimits'. -/
def bodyLimitsUptoCard : Claim7 := { stood := { row := bodyLimitsUptoRow, standIns := [], harness := (true, "3e6ce5c1b26933957b1356da9fc076b70ddbe809a491c7658defbdcdf85982bb"), looks := true }, kinds := [], alts := [], laidByText := true, laidKinds := [.data, .handle, .pinned], laidTests := true, laidLooks := .later }
def BodyLimitsUptoCardSaid : Prop := Claim7.holds Tryd.pinned (.plain (OpenSpec.upto bodyLimitsSpec)) bodyLimitsUptoCard

/-- THE SECOND FORM's CARD OF 'turnstilelaw13.BodyCuts'. -/
def bodyCutsUptoCard : Claim7 := { stood := { row := bodyCutsUptoRow, standIns := [], harness := (true, "3e6ce5c1b26933957b1356da9fc076b70ddbe809a491c7658defbdcdf85982bb"), looks := true }, kinds := [], alts := [], laidByText := true, laidKinds := [.data, .handle, .pinned], laidTests := true, laidLooks := .later }
def BodyCutsUptoCardSaid : Prop := Claim7.holds Tryd.pinned (.plain (OpenSpec.upto bodyCutsSpec)) bodyCutsUptoCard

/-- THE SECOND FORM's CARD OF 'turnstilelaw12.ChunkBack'. -/
def chunkBackUptoCard : Claim7 := { stood := { row := chunkBackUptoRow, standIns := [], harness := (true, "3e6ce5c1b26933957b1356da9fc076b70ddbe809a491c7658defbdcdf85982bb"), looks := true }, kinds := [], alts := [], laidByText := true, laidKinds := [.data, .data, .data, .data, .pinned], laidTests := true, laidLooks := .later }
def ChunkBackUptoCardSaid : Prop := Claim7.holds Tryd.pinned (.plain (OpenSpec.upto chunkBackSpec)) chunkBackUptoCard
end Rows
end Go.Proofs.YtdfgdpjlbcnkfaaDoor
