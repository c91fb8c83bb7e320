/-
  DERIVED. GIVEN WITH THE SEED: THE CARDS: each row of YtminmjlfmolfeaaGreatDoorRows.lean that lists a variable, with what it lists TIED to the program's text (the seventh form; the later family's looks); each row that meets fmt, with fmt's text TOLD by the authors' own Lean function (tested against real Go, not proved from fmt's source: count such statements apart). THE CARD IS WHAT COUNTS. Prove the row's statement (the work); the ties are given (YtminmjlfmolfeaaGreatDoorTie.lean); close each card by the builder's one call (the guide's Derived/Test/ToyasCard.lean, 'card_holds'). Laid BY PROGRAM, IN A SANDBOX (cutbox-door.mjs). By AI agents, Wed Nov 11 2026. No macro, syntax, notation, axiom, sorry.
-/
import Derived.Test.YtminmjlfmolfeaaGreatDoorRows
import GoSem.ClaimSeven
namespace Go.Proofs.YtminmjlfmolfeaaGreatDoor
namespace Rows

/-- THE TIED CARD OF 'ratchetlaw19.DutyCounts'. -/
def dutyCountsCard : Claim7 := { stood := { row := dutyCountsRow, standIns := [], harness := (true, "2373853aeb112576383468a3983e398761f3c703656f9b08093891c2af29f81a"), looks := false }, kinds := [], alts := [], laidByText := true, laidKinds := [.data], laidTests := true, laidLooks := .later }
def DutyCountsCardSaid : Prop := Claim7.holds Tryz.pinned (.plain (OpenSpec.ofChange dutyCountsSpec)) dutyCountsCard

/-- THE TIED CARD OF 'ratchetlaw19.DutyRuns'. -/
def dutyRunsCard : Claim7 := { stood := { row := dutyRunsRow, standIns := [], harness := (true, "2373853aeb112576383468a3983e398761f3c703656f9b08093891c2af29f81a"), looks := false }, kinds := [], alts := [], laidByText := true, laidKinds := [.data], laidTests := true, laidLooks := .later }
def DutyRunsCardSaid : Prop := Claim7.holds Tryz.pinned (.plain (OpenSpec.ofChange dutyRunsSpec)) dutyRunsCard

/-- THE TIED CARD OF 'ratchetlaw16.DecidePlays'. -/
def decidePlaysCard : Claim7 := { stood := { row := decidePlaysRow, standIns := [], harness := (true, "2373853aeb112576383468a3983e398761f3c703656f9b08093891c2af29f81a"), looks := false }, kinds := [], alts := [], laidByText := true, laidKinds := [.data], laidTests := true, laidLooks := .later }
def DecidePlaysCardSaid : Prop := Claim7.holds Tryz.pinned (.plain (OpenSpec.ofChange decidePlaysSpec)) decidePlaysCard

/-- THE TIED CARD OF 'ratchetlaw16.DecideSafe'. -/
def decideSafeCard : Claim7 := { stood := { row := decideSafeRow, standIns := [], harness := (true, "2373853aeb112576383468a3983e398761f3c703656f9b08093891c2af29f81a"), looks := false }, kinds := [], alts := [], laidByText := true, laidKinds := [.data], laidTests := true, laidLooks := .later }
def DecideSafeCardSaid : Prop := Claim7.holds Tryz.pinned (.plain (OpenSpec.ofChange decideSafeSpec)) decideSafeCard

/-- THE TIED CARD OF 'ratchetlaw16.DecideVoters'. -/
def decideVotersCard : Claim7 := { stood := { row := decideVotersRow, standIns := [], harness := (true, "2373853aeb112576383468a3983e398761f3c703656f9b08093891c2af29f81a"), looks := false }, kinds := [], alts := [], laidByText := true, laidKinds := [.data], laidTests := true, laidLooks := .later }
def DecideVotersCardSaid : Prop := Claim7.holds Tryz.pinned (.plain (OpenSpec.ofChange decideVotersSpec)) decideVotersCard

/-- THE TIED CARD OF 'ratchetlaw16.DecideLater'. -/
def decideLaterCard : Claim7 := { stood := { row := decideLaterRow, standIns := [], harness := (true, "2373853aeb112576383468a3983e398761f3c703656f9b08093891c2af29f81a"), looks := false }, kinds := [], alts := [], laidByText := true, laidKinds := [.data], laidTests := true, laidLooks := .later }
def DecideLaterCardSaid : Prop := Claim7.holds Tryz.pinned (.plain (OpenSpec.ofChange decideLaterSpec)) decideLaterCard

/-- THE TIED CARD OF 'ratchetlaw29.AuditOrder'. -/
def auditOrderCard : Claim7 := { stood := { row := auditOrderRow, standIns := [], harness := (true, "2373853aeb112576383468a3983e398761f3c703656f9b08093891c2af29f81a"), looks := false }, kinds := [], alts := [], laidByText := true, laidKinds := [.data], laidTests := true, laidLooks := .later }
def AuditOrderCardSaid : Prop := Claim7.holds Tryz.pinned (.plain (OpenSpec.ofChange auditOrderSpec)) auditOrderCard

/-- THE TIED CARD OF 'ratchetlaw29.AuditProves'. -/
def auditProvesCard : Claim7 := { stood := { row := auditProvesRow, standIns := [], harness := (true, "2373853aeb112576383468a3983e398761f3c703656f9b08093891c2af29f81a"), looks := false }, kinds := [], alts := [], laidByText := true, laidKinds := [.data], laidTests := true, laidLooks := .later }
def AuditProvesCardSaid : Prop := Claim7.holds Tryz.pinned (.plain (OpenSpec.ofChange auditProvesSpec)) auditProvesCard

/-- THE TIED CARD OF 'ratchetlaw29.AuditSafe'. -/
def auditSafeCard : Claim7 := { stood := { row := auditSafeRow, standIns := [], harness := (true, "2373853aeb112576383468a3983e398761f3c703656f9b08093891c2af29f81a"), looks := false }, kinds := [], alts := [], laidByText := true, laidKinds := [.data], laidTests := true, laidLooks := .later }
def AuditSafeCardSaid : Prop := Claim7.holds Tryz.pinned (.plain (OpenSpec.ofChange auditSafeSpec)) auditSafeCard

/-- THE TIED CARD OF 'ratchetlaw29.AuditForks'. -/
def auditForksCard : Claim7 := { stood := { row := auditForksRow, standIns := [], harness := (true, "2373853aeb112576383468a3983e398761f3c703656f9b08093891c2af29f81a"), looks := false }, kinds := [], alts := [], laidByText := true, laidKinds := [.data], laidTests := true, laidLooks := .later }
def AuditForksCardSaid : Prop := Claim7.holds Tryz.pinned (.plain (OpenSpec.ofChange auditForksSpec)) auditForksCard

/-- THE SECOND FORM's CARD OF 'ratchetlaw19.DutyCounts'. -/
def dutyCountsUptoCard : Claim7 := { stood := { row := dutyCountsUptoRow, standIns := [], harness := (true, "2373853aeb112576383468a3983e398761f3c703656f9b08093891c2af29f81a"), looks := false }, kinds := [], alts := [], laidByText := true, laidKinds := [.data], laidTests := true, laidLooks := .later }
def DutyCountsUptoCardSaid : Prop := Claim7.holds Tryz.pinned (.plain (OpenSpec.upto dutyCountsSpec)) dutyCountsUptoCard

/-- THE SECOND FORM's CARD OF 'ratchetlaw19.DutyRuns'. -/
def dutyRunsUptoCard : Claim7 := { stood := { row := dutyRunsUptoRow, standIns := [], harness := (true, "2373853aeb112576383468a3983e398761f3c703656f9b08093891c2af29f81a"), looks := false }, kinds := [], alts := [], laidByText := true, laidKinds := [.data], laidTests := true, laidLooks := .later }
def DutyRunsUptoCardSaid : Prop := Claim7.holds Tryz.pinned (.plain (OpenSpec.upto dutyRunsSpec)) dutyRunsUptoCard

/-- THE SECOND FORM's CARD OF 'ratchetlaw16.DecidePlays'. -/
def decidePlaysUptoCard : Claim7 := { stood := { row := decidePlaysUptoRow, standIns := [], harness := (true, "2373853aeb112576383468a3983e398761f3c703656f9b08093891c2af29f81a"), looks := false }, kinds := [], alts := [], laidByText := true, laidKinds := [.data], laidTests := true, laidLooks := .later }
def DecidePlaysUptoCardSaid : Prop := Claim7.holds Tryz.pinned (.plain (OpenSpec.upto decidePlaysSpec)) decidePlaysUptoCard

/-- THE SECOND FORM's CARD OF 'ratchetlaw16.DecideSafe'. -/
def decideSafeUptoCard : Claim7 := { stood := { row := decideSafeUptoRow, standIns := [], harness := (true, "2373853aeb112576383468a3983e398761f3c703656f9b08093891c2af29f81a"), looks := false }, kinds := [], alts := [], laidByText := true, laidKinds := [.data], laidTests := true, laidLooks := .later }
def DecideSafeUptoCardSaid : Prop := Claim7.holds Tryz.pinned (.plain (OpenSpec.upto decideSafeSpec)) decideSafeUptoCard

/-- THE SECOND FORM's CARD OF 'ratchetlaw16.DecideVoters'. -/
def decideVotersUptoCard : Claim7 := { stood := { row := decideVotersUptoRow, standIns := [], harness := (true, "2373853aeb112576383468a3983e398761f3c703656f9b08093891c2af29f81a"), looks := false }, kinds := [], alts := [], laidByText := true, laidKinds := [.data], laidTests := true, laidLooks := .later }
def DecideVotersUptoCardSaid : Prop := Claim7.holds Tryz.pinned (.plain (OpenSpec.upto decideVotersSpec)) decideVotersUptoCard

/-- THE SECOND FORM's CARD OF 'ratchetlaw16.DecideLater'. -/
def decideLaterUptoCard : Claim7 := { stood := { row := decideLaterUptoRow, standIns := [], harness := (true, "2373853aeb112576383468a3983e398761f3c703656f9b08093891c2af29f81a"), looks := false }, kinds := [], alts := [], laidByText := true, laidKinds := [.data], laidTests := true, laidLooks := .later }
def DecideLaterUptoCardSaid : Prop := Claim7.holds Tryz.pinned (.plain (OpenSpec.upto decideLaterSpec)) decideLaterUptoCard

/-- THE SECOND FORM's CARD OF 'ratchetlaw29.AuditOrder'. -/
def auditOrderUptoCard : Claim7 := { stood := { row := auditOrderUptoRow, standIns := [], harness := (true, "2373853aeb112576383468a3983e398761f3c703656f9b08093891c2af29f81a"), looks := false }, kinds := [], alts := [], laidByText := true, laidKinds := [.data], laidTests := true, laidLooks := .later }
def AuditOrderUptoCardSaid : Prop := Claim7.holds Tryz.pinned (.plain (OpenSpec.upto auditOrderSpec)) auditOrderUptoCard

/-- THE SECOND FORM's CARD OF 'ratchetlaw29.AuditProves'. -/
def auditProvesUptoCard : Claim7 := { stood := { row := auditProvesUptoRow, standIns := [], harness := (true, "2373853aeb112576383468a3983e398761f3c703656f9b08093891c2af29f81a"), looks := false }, kinds := [], alts := [], laidByText := true, laidKinds := [.data], laidTests := true, laidLooks := .later }
def AuditProvesUptoCardSaid : Prop := Claim7.holds Tryz.pinned (.plain (OpenSpec.upto auditProvesSpec)) auditProvesUptoCard

/-- THE SECOND FORM's CARD OF 'ratchetlaw29.AuditSafe'. -/
def auditSafeUptoCard : Claim7 := { stood := { row := auditSafeUptoRow, standIns := [], harness := (true, "2373853aeb112576383468a3983e398761f3c703656f9b08093891c2af29f81a"), looks := false }, kinds := [], alts := [], laidByText := true, laidKinds := [.data], laidTests := true, laidLooks := .later }
def AuditSafeUptoCardSaid : Prop := Claim7.holds Tryz.pinned (.plain (OpenSpec.upto auditSafeSpec)) auditSafeUptoCard

/-- THE SECOND FORM's CARD OF 'ratchetlaw29.AuditForks'. -/
def auditForksUptoCard : Claim7 := { stood := { row := auditForksUptoRow, standIns := [], harness := (true, "2373853aeb112576383468a3983e398761f3c703656f9b08093891c2af29f81a"), looks := false }, kinds := [], alts := [], laidByText := true, laidKinds := [.data], laidTests := true, laidLooks := .later }
def AuditForksUptoCardSaid : Prop := Claim7.holds Tryz.pinned (.plain (OpenSpec.upto auditForksSpec)) auditForksUptoCard
end Rows
end Go.Proofs.YtminmjlfmolfeaaGreatDoor
