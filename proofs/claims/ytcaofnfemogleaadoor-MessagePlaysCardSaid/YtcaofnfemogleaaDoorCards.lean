/-
  DERIVED. GIVEN WITH THE SEED: THE CARDS: each row of YtcaofnfemogleaaDoorRows.lean that lists a variable, with what it lists TIED to the program's text (the seventh form; the later family's looks); each row that meets fmt, with fmt's text TOLD by the authors' own Lean function (tested against real Go, not proved from fmt's source: count such statements apart). THE CARD IS WHAT COUNTS. Prove the row's statement (the work); the ties are given (YtcaofnfemogleaaDoorTie.lean); close each card by the builder's one call (the guide's Derived/Test/ToyasCard.lean, 'card_holds'). Laid BY PROGRAM, IN A SANDBOX (cutbox-door.mjs). By AI agents, Wed Nov 11 2026. No macro, syntax, notation, axiom, sorry.
-/
import Derived.Test.YtcaofnfemogleaaDoorRows
import GoSem.ClaimSeven
namespace Go.Proofs.YtcaofnfemogleaaDoor
namespace Rows

/-- THE TIED CARD OF 'ratchetlaw08.MessagePlays'. -/
def messagePlaysCard : Claim7 := { stood := { row := messagePlaysRow, standIns := [], harness := (true, "535fd8538ff38bd230492eec20c59527d07af24f8b5b11a6f27cb0d0616c7add"), looks := false }, kinds := [], alts := [], laidByText := true, laidKinds := [.data], laidTests := true, laidLooks := .later }
def MessagePlaysCardSaid : Prop := Claim7.holds Tryd.pinned (.plain (OpenSpec.ofChange messagePlaysSpec)) messagePlaysCard

/-- THE TIED CARD OF 'ratchetlaw08.MessageBack'. -/
def messageBackCard : Claim7 := { stood := { row := messageBackRow, standIns := [], harness := (true, "535fd8538ff38bd230492eec20c59527d07af24f8b5b11a6f27cb0d0616c7add"), looks := false }, kinds := [], alts := [], laidByText := true, laidKinds := [.data], laidTests := true, laidLooks := .later }
def MessageBackCardSaid : Prop := Claim7.holds Tryd.pinned (.plain (OpenSpec.ofChange messageBackSpec)) messageBackCard

/-- THE TIED CARD OF 'ratchetlaw08.MessageSizes'. -/
def messageSizesCard : Claim7 := { stood := { row := messageSizesRow, standIns := [], harness := (true, "535fd8538ff38bd230492eec20c59527d07af24f8b5b11a6f27cb0d0616c7add"), looks := false }, kinds := [], alts := [], laidByText := true, laidKinds := [.data], laidTests := true, laidLooks := .later }
def MessageSizesCardSaid : Prop := Claim7.holds Tryd.pinned (.plain (OpenSpec.ofChange messageSizesSpec)) messageSizesCard

/-- THE TIED CARD OF 'ratchetlaw08.MessageOwn'. -/
def messageOwnCard : Claim7 := { stood := { row := messageOwnRow, standIns := [], harness := (true, "535fd8538ff38bd230492eec20c59527d07af24f8b5b11a6f27cb0d0616c7add"), looks := false }, kinds := [], alts := [], laidByText := true, laidKinds := [.data], laidTests := true, laidLooks := .later }
def MessageOwnCardSaid : Prop := Claim7.holds Tryd.pinned (.plain (OpenSpec.ofChange messageOwnSpec)) messageOwnCard

/-- THE SECOND FORM's CARD OF 'ratchetlaw08.MessagePlays'. -/
def messagePlaysUptoCard : Claim7 := { stood := { row := messagePlaysUptoRow, standIns := [], harness := (true, "535fd8538ff38bd230492eec20c59527d07af24f8b5b11a6f27cb0d0616c7add"), looks := false }, kinds := [], alts := [], laidByText := true, laidKinds := [.data], laidTests := true, laidLooks := .later }
def MessagePlaysUptoCardSaid : Prop := Claim7.holds Tryd.pinned (.plain (OpenSpec.upto messagePlaysSpec)) messagePlaysUptoCard

/-- THE SECOND FORM's CARD OF 'ratchetlaw08.MessageBack'. -/
def messageBackUptoCard : Claim7 := { stood := { row := messageBackUptoRow, standIns := [], harness := (true, "535fd8538ff38bd230492eec20c59527d07af24f8b5b11a6f27cb0d0616c7add"), looks := false }, kinds := [], alts := [], laidByText := true, laidKinds := [.data], laidTests := true, laidLooks := .later }
def MessageBackUptoCardSaid : Prop := Claim7.holds Tryd.pinned (.plain (OpenSpec.upto messageBackSpec)) messageBackUptoCard

/-- THE SECOND FORM's CARD OF 'ratchetlaw08.MessageSizes'. -/
def messageSizesUptoCard : Claim7 := { stood := { row := messageSizesUptoRow, standIns := [], harness := (true, "535fd8538ff38bd230492eec20c59527d07af24f8b5b11a6f27cb0d0616c7add"), looks := false }, kinds := [], alts := [], laidByText := true, laidKinds := [.data], laidTests := true, laidLooks := .later }
def MessageSizesUptoCardSaid : Prop := Claim7.holds Tryd.pinned (.plain (OpenSpec.upto messageSizesSpec)) messageSizesUptoCard

/-- THE SECOND FORM's CARD OF 'ratchetlaw08.MessageOwn'. -/
def messageOwnUptoCard : Claim7 := { stood := { row := messageOwnUptoRow, standIns := [], harness := (true, "535fd8538ff38bd230492eec20c59527d07af24f8b5b11a6f27cb0d0616c7add"), looks := false }, kinds := [], alts := [], laidByText := true, laidKinds := [.data], laidTests := true, laidLooks := .later }
def MessageOwnUptoCardSaid : Prop := Claim7.holds Tryd.pinned (.plain (OpenSpec.upto messageOwnSpec)) messageOwnUptoCard
end Rows
end Go.Proofs.YtcaofnfemogleaaDoor
