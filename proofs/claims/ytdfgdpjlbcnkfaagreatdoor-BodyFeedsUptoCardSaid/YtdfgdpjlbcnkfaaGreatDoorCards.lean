/-
  DERIVED. GIVEN WITH THE SEED: THE CARDS: each row of YtdfgdpjlbcnkfaaGreatDoorRows.lean that lists a variable, with what it lists TIED to the program's text (the seventh form; the later family's looks); each row that meets fmt, with fmt's text TOLD by the authors' own Lean function (tested against real Go, not proved from fmt's source: count such statements apart). THE CARD IS WHAT COUNTS. Prove the row's statement (the work); the ties are given (YtdfgdpjlbcnkfaaGreatDoorTie.lean); close each card by the builder's one call (the guide's Derived/Test/ToyasCard.lean, 'card_holds'). Laid BY PROGRAM, IN A SANDBOX (cutbox-door.mjs). By AI agents, Wed Nov 11 2026. No macro, syntax, notation, axiom, sorry.
-/
import Derived.Test.YtdfgdpjlbcnkfaaGreatDoorRows
import GoSem.ClaimSeven
namespace Go.Proofs.YtdfgdpjlbcnkfaaGreatDoor
namespace Rows

/-- THE TIED CARD OF 'turnstilelaw13.BodyWhole'. -/
def bodyWholeCard : Claim7 := { stood := { row := bodyWholeRow, standIns := [], harness := (true, "fe5cb472292c7bb404e1851388b05dd27c7d7a0506c8301f6f92f083cd051988"), looks := true }, kinds := [], alts := [], laidByText := true, laidKinds := [.data, .handle, .pinned], laidTests := true, laidLooks := .later }
def BodyWholeCardSaid : Prop := Claim7.holds Tryz.pinned (.plain (OpenSpec.ofChange bodyWholeSpec)) bodyWholeCard

/-- THE TIED CARD OF 'turnstilelaw13.BodyFeeds'. -/
def bodyFeedsCard : Claim7 := { stood := { row := bodyFeedsRow, standIns := [], harness := (true, "fe5cb472292c7bb404e1851388b05dd27c7d7a0506c8301f6f92f083cd051988"), looks := true }, kinds := [], alts := [], laidByText := true, laidKinds := [.data, .handle, .pinned], laidTests := true, laidLooks := .later }
def BodyFeedsCardSaid : Prop := Claim7.holds Tryz.pinned (.plain (OpenSpec.ofChange bodyFeedsSpec)) bodyFeedsCard

/-- THE SECOND FORM's CARD OF 'turnstilelaw13.BodyWhole'. -/
def bodyWholeUptoCard : Claim7 := { stood := { row := bodyWholeUptoRow, standIns := [], harness := (true, "fe5cb472292c7bb404e1851388b05dd27c7d7a0506c8301f6f92f083cd051988"), looks := true }, kinds := [], alts := [], laidByText := true, laidKinds := [.data, .handle, .pinned], laidTests := true, laidLooks := .later }
def BodyWholeUptoCardSaid : Prop := Claim7.holds Tryz.pinned (.plain (OpenSpec.upto bodyWholeSpec)) bodyWholeUptoCard

/-- THE SECOND FORM's CARD OF 'turnstilelaw13.BodyFeeds'. -/
def bodyFeedsUptoCard : Claim7 := { stood := { row := bodyFeedsUptoRow, standIns := [], harness := (true, "fe5cb472292c7bb404e1851388b05dd27c7d7a0506c8301f6f92f083cd051988"), looks := true }, kinds := [], alts := [], laidByText := true, laidKinds := [.data, .handle, .pinned], laidTests := true, laidLooks := .later }
def BodyFeedsUptoCardSaid : Prop := Claim7.holds Tryz.pinned (.plain (OpenSpec.upto bodyFeedsSpec)) bodyFeedsUptoCard
end Rows
end Go.Proofs.YtdfgdpjlbcnkfaaGreatDoor
