/-
  DERIVED. GIVEN WITH THE SEED: THE CARDS: each row of YtkaknokcbhiigaaGreatDoorRows.lean that lists a variable, with what it lists TIED to the program's text (the seventh form; the later family's looks); each row that meets fmt, with fmt's text TOLD by the authors' own Lean function (tested against real Go, not proved from fmt's source: count such statements apart). THE CARD IS WHAT COUNTS. Prove the row's statement (the work); the ties are given (YtkaknokcbhiigaaGreatDoorTie.lean); close each card by the builder's one call (the guide's Derived/Test/ToyasCard.lean, 'card_holds'). Laid BY PROGRAM, IN A SANDBOX (cutbox-door.mjs). By AI agents, Wed Nov 11 2026. No macro, syntax, notation, axiom, sorry.
-/
import Derived.Test.YtkaknokcbhiigaaGreatDoorRows
import GoSem.ClaimSeven
namespace Go.Proofs.YtkaknokcbhiigaaGreatDoor
namespace Rows

/-- THE TIED CARD OF 'ratchetlaw29.AuditOrder'. -/
def auditOrderCard : Claim7 := { stood := { row := auditOrderRow, standIns := [], harness := (true, "a81be02c8df5b6aa48d3cc48cf48b934e198a09a355af8aa603fe581cff57141"), looks := false }, kinds := [], alts := [], laidByText := true, laidKinds := [.data], laidTests := true, laidLooks := .later }
def AuditOrderCardSaid : Prop := Claim7.holds Tryz.pinned (.plain (OpenSpec.ofChange auditOrderSpec)) auditOrderCard

/-- THE TIED CARD OF 'ratchetlaw29.AuditProves'. -/
def auditProvesCard : Claim7 := { stood := { row := auditProvesRow, standIns := [], harness := (true, "a81be02c8df5b6aa48d3cc48cf48b934e198a09a355af8aa603fe581cff57141"), looks := false }, kinds := [], alts := [], laidByText := true, laidKinds := [.data], laidTests := true, laidLooks := .later }
def AuditProvesCardSaid : Prop := Claim7.holds Tryz.pinned (.plain (OpenSpec.ofChange auditProvesSpec)) auditProvesCard

/-- THE TIED CARD OF 'ratchetlaw29.AuditSafe'. -/
def auditSafeCard : Claim7 := { stood := { row := auditSafeRow, standIns := [], harness := (true, "a81be02c8df5b6aa48d3cc48cf48b934e198a09a355af8aa603fe581cff57141"), looks := false }, kinds := [], alts := [], laidByText := true, laidKinds := [.data], laidTests := true, laidLooks := .later }
def AuditSafeCardSaid : Prop := Claim7.holds Tryz.pinned (.plain (OpenSpec.ofChange auditSafeSpec)) auditSafeCard

/-- THE TIED CARD OF 'ratchetlaw29.AuditForks'. -/
def auditForksCard : Claim7 := { stood := { row := auditForksRow, standIns := [], harness := (true, "a81be02c8df5b6aa48d3cc48cf48b934e198a09a355af8aa603fe581cff57141"), looks := false }, kinds := [], alts := [], laidByText := true, laidKinds := [.data], laidTests := true, laidLooks := .later }
def AuditForksCardSaid : Prop := Claim7.holds Tryz.pinned (.plain (OpenSpec.ofChange auditForksSpec)) auditForksCard

/-- THE SECOND FORM's CARD OF 'ratchetlaw29.AuditOrder'. -/
def auditOrderUptoCard : Claim7 := { stood := { row := auditOrderUptoRow, standIns := [], harness := (true, "a81be02c8df5b6aa48d3cc48cf48b934e198a09a355af8aa603fe581cff57141"), looks := false }, kinds := [], alts := [], laidByText := true, laidKinds := [.data], laidTests := true, laidLooks := .later }
def AuditOrderUptoCardSaid : Prop := Claim7.holds Tryz.pinned (.plain (OpenSpec.upto auditOrderSpec)) auditOrderUptoCard

/-- THE SECOND FORM's CARD OF 'ratchetlaw29.AuditProves'. -/
def auditProvesUptoCard : Claim7 := { stood := { row := auditProvesUptoRow, standIns := [], harness := (true, "a81be02c8df5b6aa48d3cc48cf48b934e198a09a355af8aa603fe581cff57141"), looks := false }, kinds := [], alts := [], laidByText := true, laidKinds := [.data], laidTests := true, laidLooks := .later }
def AuditProvesUptoCardSaid : Prop := Claim7.holds Tryz.pinned (.plain (OpenSpec.upto auditProvesSpec)) auditProvesUptoCard

/-- THE SECOND FORM's CARD OF 'ratchetlaw29.AuditSafe'. -/
def auditSafeUptoCard : Claim7 := { stood := { row := auditSafeUptoRow, standIns := [], harness := (true, "a81be02c8df5b6aa48d3cc48cf48b934e198a09a355af8aa603fe581cff57141"), looks := false }, kinds := [], alts := [], laidByText := true, laidKinds := [.data], laidTests := true, laidLooks := .later }
def AuditSafeUptoCardSaid : Prop := Claim7.holds Tryz.pinned (.plain (OpenSpec.upto auditSafeSpec)) auditSafeUptoCard

/-- THE SECOND FORM's CARD OF 'ratchetlaw29.AuditForks'. -/
def auditForksUptoCard : Claim7 := { stood := { row := auditForksUptoRow, standIns := [], harness := (true, "a81be02c8df5b6aa48d3cc48cf48b934e198a09a355af8aa603fe581cff57141"), looks := false }, kinds := [], alts := [], laidByText := true, laidKinds := [.data], laidTests := true, laidLooks := .later }
def AuditForksUptoCardSaid : Prop := Claim7.holds Tryz.pinned (.plain (OpenSpec.upto auditForksSpec)) auditForksUptoCard
end Rows
end Go.Proofs.YtkaknokcbhiigaaGreatDoor
