/-
  DERIVED. GIVEN WITH THE SEED: THE CARDS: each row of YtcdpnloeheaclaaDoorRows.lean that lists a variable, with what it lists TIED to the program's text (the seventh form; the later family's looks); each row that meets fmt, with fmt's text TOLD by the authors' own Lean function (tested against real Go, not proved from fmt's source: count such statements apart). THE CARD IS WHAT COUNTS. Prove the row's statement (the work); the ties are given (YtcdpnloeheaclaaDoorTie.lean); close each card by the builder's one call (the guide's Derived/Test/ToyasCard.lean, 'card_holds'). Laid BY PROGRAM, IN A SANDBOX (cutbox-door.mjs). By AI agents, Wed Nov 11 2026. No macro, syntax, notation, axiom, sorry.
-/
import Derived.Test.YtcdpnloeheaclaaDoorRows
import GoSem.ClaimSeven
namespace Go.Proofs.YtcdpnloeheaclaaDoor
namespace Rows

/-- THE TIED CARD OF 'ratchetlaw21.CheckOne'. -/
def checkOneCard : Claim7 := { stood := { row := checkOneRow, standIns := [], harness := (true, "402876712fc7f2ad4cb3730113bc300cb2d710a963b0d7d24fe4f4a2f942bda4"), looks := false }, kinds := [], alts := [], laidByText := true, laidKinds := [.data], laidTests := true, laidLooks := .later }
def CheckOneCardSaid : Prop := Claim7.holds Tryd.pinned (.plain (OpenSpec.ofChange checkOneSpec)) checkOneCard

/-- THE TIED CARD OF 'ratchetlaw21.CheckQuorums'. -/
def checkQuorumsCard : Claim7 := { stood := { row := checkQuorumsRow, standIns := [], harness := (true, "402876712fc7f2ad4cb3730113bc300cb2d710a963b0d7d24fe4f4a2f942bda4"), looks := false }, kinds := [], alts := [], laidByText := true, laidKinds := [.data], laidTests := true, laidLooks := .later }
def CheckQuorumsCardSaid : Prop := Claim7.holds Tryd.pinned (.plain (OpenSpec.ofChange checkQuorumsSpec)) checkQuorumsCard

/-- THE SECOND FORM's CARD OF 'ratchetlaw21.CheckOne'. -/
def checkOneUptoCard : Claim7 := { stood := { row := checkOneUptoRow, standIns := [], harness := (true, "402876712fc7f2ad4cb3730113bc300cb2d710a963b0d7d24fe4f4a2f942bda4"), looks := false }, kinds := [], alts := [], laidByText := true, laidKinds := [.data], laidTests := true, laidLooks := .later }
def CheckOneUptoCardSaid : Prop := Claim7.holds Tryd.pinned (.plain (OpenSpec.upto checkOneSpec)) checkOneUptoCard

/-- THE SECOND FORM's CARD OF 'ratchetlaw21.CheckQuorums'. -/
def checkQuorumsUptoCard : Claim7 := { stood := { row := checkQuorumsUptoRow, standIns := [], harness := (true, "402876712fc7f2ad4cb3730113bc300cb2d710a963b0d7d24fe4f4a2f942bda4"), looks := false }, kinds := [], alts := [], laidByText := true, laidKinds := [.data], laidTests := true, laidLooks := .later }
def CheckQuorumsUptoCardSaid : Prop := Claim7.holds Tryd.pinned (.plain (OpenSpec.upto checkQuorumsSpec)) checkQuorumsUptoCard
end Rows
end Go.Proofs.YtcdpnloeheaclaaDoor
