/-
  DERIVED. GIVEN WITH THE SEED: THE CARDS: each row of YtcaofnfemogleaaGreatDoorRows.lean that lists a variable, with what it lists TIED to the program's text (the seventh form; the later family's looks); each row that meets fmt, with fmt's text TOLD by the authors' own Lean function (tested against real Go, not proved from fmt's source: count such statements apart). THE CARD IS WHAT COUNTS. Prove the row's statement (the work); the ties are given (YtcaofnfemogleaaGreatDoorTie.lean); close each card by the builder's one call (the guide's Derived/Test/ToyasCard.lean, 'card_holds'). Laid BY PROGRAM, IN A SANDBOX (cutbox-door.mjs). By AI agents, Wed Nov 11 2026. No macro, syntax, notation, axiom, sorry.
-/
import Derived.Test.YtcaofnfemogleaaGreatDoorRows
import GoSem.ClaimSeven
namespace Go.Proofs.YtcaofnfemogleaaGreatDoor
namespace Rows

/-- THE TIED CARD OF 'ratchetlaw08.MessageGets'. -/
def messageGetsCard : Claim7 := { stood := { row := messageGetsRow, standIns := [], harness := (true, "032b882fa9fa32598ccddee2ace120704e418b56e5b1c9f44e83e84f46fb6895"), looks := false }, kinds := [], alts := [], laidByText := true, laidKinds := [.data], laidTests := true, laidLooks := .later }
def MessageGetsCardSaid : Prop := Claim7.holds Tryz.pinned (.plain (OpenSpec.ofChange messageGetsSpec)) messageGetsCard

/-- THE TIED CARD OF 'ratchetlaw08.MessageRequests'. -/
def messageRequestsCard : Claim7 := { stood := { row := messageRequestsRow, standIns := [], harness := (true, "032b882fa9fa32598ccddee2ace120704e418b56e5b1c9f44e83e84f46fb6895"), looks := false }, kinds := [], alts := [], laidByText := true, laidKinds := [.data], laidTests := true, laidLooks := .later }
def MessageRequestsCardSaid : Prop := Claim7.holds Tryz.pinned (.plain (OpenSpec.ofChange messageRequestsSpec)) messageRequestsCard

/-- THE TIED CARD OF 'ratchetlaw08.MessageTags'. -/
def messageTagsCard : Claim7 := { stood := { row := messageTagsRow, standIns := [], harness := (true, "032b882fa9fa32598ccddee2ace120704e418b56e5b1c9f44e83e84f46fb6895"), looks := false }, kinds := [], alts := [], laidByText := true, laidKinds := [.data], laidTests := true, laidLooks := .later }
def MessageTagsCardSaid : Prop := Claim7.holds Tryz.pinned (.plain (OpenSpec.ofChange messageTagsSpec)) messageTagsCard

/-- THE SECOND FORM's CARD OF 'ratchetlaw08.MessageGets'. -/
def messageGetsUptoCard : Claim7 := { stood := { row := messageGetsUptoRow, standIns := [], harness := (true, "032b882fa9fa32598ccddee2ace120704e418b56e5b1c9f44e83e84f46fb6895"), looks := false }, kinds := [], alts := [], laidByText := true, laidKinds := [.data], laidTests := true, laidLooks := .later }
def MessageGetsUptoCardSaid : Prop := Claim7.holds Tryz.pinned (.plain (OpenSpec.upto messageGetsSpec)) messageGetsUptoCard

/-- THE SECOND FORM's CARD OF 'ratchetlaw08.MessageRequests'. -/
def messageRequestsUptoCard : Claim7 := { stood := { row := messageRequestsUptoRow, standIns := [], harness := (true, "032b882fa9fa32598ccddee2ace120704e418b56e5b1c9f44e83e84f46fb6895"), looks := false }, kinds := [], alts := [], laidByText := true, laidKinds := [.data], laidTests := true, laidLooks := .later }
def MessageRequestsUptoCardSaid : Prop := Claim7.holds Tryz.pinned (.plain (OpenSpec.upto messageRequestsSpec)) messageRequestsUptoCard

/-- THE SECOND FORM's CARD OF 'ratchetlaw08.MessageTags'. -/
def messageTagsUptoCard : Claim7 := { stood := { row := messageTagsUptoRow, standIns := [], harness := (true, "032b882fa9fa32598ccddee2ace120704e418b56e5b1c9f44e83e84f46fb6895"), looks := false }, kinds := [], alts := [], laidByText := true, laidKinds := [.data], laidTests := true, laidLooks := .later }
def MessageTagsUptoCardSaid : Prop := Claim7.holds Tryz.pinned (.plain (OpenSpec.upto messageTagsSpec)) messageTagsUptoCard
end Rows
end Go.Proofs.YtcaofnfemogleaaGreatDoor
