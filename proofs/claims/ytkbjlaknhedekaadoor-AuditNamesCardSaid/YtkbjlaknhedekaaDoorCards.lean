/-
  DERIVED. GIVEN WITH THE SEED: THE CARDS: each row of YtkbjlaknhedekaaDoorRows.lean that lists a variable, with what it lists TIED to the program's text (the seventh form; the later family's looks); each row that meets fmt, with fmt's text TOLD by the authors' own Lean function (tested against real Go, not proved from fmt's source: count such statements apart). THE CARD IS WHAT COUNTS. Prove the row's statement (the work); the ties are given (YtkbjlaknhedekaaDoorTie.lean); close each card by the builder's one call (the guide's Derived/Test/ToyasCard.lean, 'card_holds'). Laid BY PROGRAM, IN A SANDBOX (cutbox-door.mjs). By AI agents, Wed Nov 11 2026. No macro, syntax, notation, axiom, sorry.
-/
import Derived.Test.YtkbjlaknhedekaaDoorRows
import GoSem.ClaimSeven
namespace Go.Proofs.YtkbjlaknhedekaaDoor
namespace Rows

/-- THE TIED CARD OF 'berthinglaw29.AuditNames'. -/
def auditNamesCard : Claim7 := { stood := { row := auditNamesRow, standIns := [], harness := (true, "501ffd8bc5f8b8f347211b9c8220a56d27735288cda456f2b4bb22ad3eeeafbd"), looks := false }, kinds := [], alts := [], laidByText := true, laidKinds := [.data], laidTests := true, laidLooks := .later }
def AuditNamesCardSaid : Prop := Claim7.holds Tryd.pinned (.plain (OpenSpec.ofChange auditNamesSpec)) auditNamesCard

/-- THE SECOND FORM's CARD OF 'berthinglaw29.AuditNames'. -/
def auditNamesUptoCard : Claim7 := { stood := { row := auditNamesUptoRow, standIns := [], harness := (true, "501ffd8bc5f8b8f347211b9c8220a56d27735288cda456f2b4bb22ad3eeeafbd"), looks := false }, kinds := [], alts := [], laidByText := true, laidKinds := [.data], laidTests := true, laidLooks := .later }
def AuditNamesUptoCardSaid : Prop := Claim7.holds Tryd.pinned (.plain (OpenSpec.upto auditNamesSpec)) auditNamesUptoCard
end Rows
end Go.Proofs.YtkbjlaknhedekaaDoor
