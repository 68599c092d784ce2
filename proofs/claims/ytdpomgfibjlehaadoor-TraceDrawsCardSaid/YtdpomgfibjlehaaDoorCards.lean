/-
  DERIVED. GIVEN WITH THE SEED: THE CARDS: each row of YtdpomgfibjlehaaDoorRows.lean that lists a variable, with what it lists TIED to the program's text (the seventh form; the later family's looks); each row that meets fmt, with fmt's text TOLD by the authors' own Lean function (tested against real Go, not proved from fmt's source: count such statements apart). THE CARD IS WHAT COUNTS. Prove the row's statement (the work); the ties are given (YtdpomgfibjlehaaDoorTie.lean); close each card by the builder's one call (the guide's Derived/Test/ToyasCard.lean, 'card_holds'). Laid BY PROGRAM, IN A SANDBOX (cutbox-door.mjs). By AI agents, Wed Nov 11 2026. No macro, syntax, notation, axiom, sorry.
-/
import Derived.Test.YtdpomgfibjlehaaDoorRows
import GoSem.ClaimSeven
namespace Go.Proofs.YtdpomgfibjlehaaDoor
namespace Rows

/-- THE TIED CARD OF 'berthinglaw32.TracePuts'. -/
def tracePutsCard : Claim7 := { stood := { row := tracePutsRow, standIns := [], harness := (true, "30adef1100ea87ac4ec0033eaacf3546bafa454a1e10b37c4e385eee1338ce1c"), looks := true }, kinds := [], alts := [], laidByText := true, laidKinds := [.handle], laidTests := true, laidLooks := .later }
def TracePutsCardSaid : Prop := Claim7.holds Tryd.pinned (.plain (OpenSpec.ofChange tracePutsSpec)) tracePutsCard

/-- THE TIED CARD OF 'berthinglaw32.TraceDraws'. -/
def traceDrawsCard : Claim7 := { stood := { row := traceDrawsRow, standIns := [], harness := (true, "30adef1100ea87ac4ec0033eaacf3546bafa454a1e10b37c4e385eee1338ce1c"), looks := true }, kinds := [], alts := [], laidByText := true, laidKinds := [.handle], laidTests := true, laidLooks := .later }
def TraceDrawsCardSaid : Prop := Claim7.holds Tryd.pinned (.plain (OpenSpec.ofChange traceDrawsSpec)) traceDrawsCard

/-- THE TIED CARD OF 'berthinglaw32.TraceBack'. -/
def traceBackCard : Claim7 := { stood := { row := traceBackRow, standIns := [], harness := (true, "30adef1100ea87ac4ec0033eaacf3546bafa454a1e10b37c4e385eee1338ce1c"), looks := true }, kinds := [], alts := [], laidByText := true, laidKinds := [.handle], laidTests := true, laidLooks := .later }
def TraceBackCardSaid : Prop := Claim7.holds Tryd.pinned (.plain (OpenSpec.ofChange traceBackSpec)) traceBackCard

/-- THE TIED CARD OF 'berthinglaw32.TraceDrawn'. -/
def traceDrawnCard : Claim7 := { stood := { row := traceDrawnRow, standIns := [], harness := (true, "30adef1100ea87ac4ec0033eaacf3546bafa454a1e10b37c4e385eee1338ce1c"), looks := true }, kinds := [], alts := [], laidByText := true, laidKinds := [.handle], laidTests := true, laidLooks := .later }
def TraceDrawnCardSaid : Prop := Claim7.holds Tryd.pinned (.plain (OpenSpec.ofChange traceDrawnSpec)) traceDrawnCard

/-- THE SECOND FORM's CARD OF 'berthinglaw32.TracePuts'. -/
def tracePutsUptoCard : Claim7 := { stood := { row := tracePutsUptoRow, standIns := [], harness := (true, "30adef1100ea87ac4ec0033eaacf3546bafa454a1e10b37c4e385eee1338ce1c"), looks := true }, kinds := [], alts := [], laidByText := true, laidKinds := [.handle], laidTests := true, laidLooks := .later }
def TracePutsUptoCardSaid : Prop := Claim7.holds Tryd.pinned (.plain (OpenSpec.upto tracePutsSpec)) tracePutsUptoCard

/-- THE SECOND FORM's CARD OF 'berthinglaw32.TraceDraws'. -/
def traceDrawsUptoCard : Claim7 := { stood := { row := traceDrawsUptoRow, standIns := [], harness := (true, "30adef1100ea87ac4ec0033eaacf3546bafa454a1e10b37c4e385eee1338ce1c"), looks := true }, kinds := [], alts := [], laidByText := true, laidKinds := [.handle], laidTests := true, laidLooks := .later }
def TraceDrawsUptoCardSaid : Prop := Claim7.holds Tryd.pinned (.plain (OpenSpec.upto traceDrawsSpec)) traceDrawsUptoCard

/-- THE SECOND FORM's CARD OF 'berthinglaw32.TraceBack'. -/
def traceBackUptoCard : Claim7 := { stood := { row := traceBackUptoRow, standIns := [], harness := (true, "30adef1100ea87ac4ec0033eaacf3546bafa454a1e10b37c4e385eee1338ce1c"), looks := true }, kinds := [], alts := [], laidByText := true, laidKinds := [.handle], laidTests := true, laidLooks := .later }
def TraceBackUptoCardSaid : Prop := Claim7.holds Tryd.pinned (.plain (OpenSpec.upto traceBackSpec)) traceBackUptoCard

/-- THE SECOND FORM's CARD OF 'berthinglaw32.TraceDrawn'. -/
def traceDrawnUptoCard : Claim7 := { stood := { row := traceDrawnUptoRow, standIns := [], harness := (true, "30adef1100ea87ac4ec0033eaacf3546bafa454a1e10b37c4e385eee1338ce1c"), looks := true }, kinds := [], alts := [], laidByText := true, laidKinds := [.handle], laidTests := true, laidLooks := .later }
def TraceDrawnUptoCardSaid : Prop := Claim7.holds Tryd.pinned (.plain (OpenSpec.upto traceDrawnSpec)) traceDrawnUptoCard
end Rows
end Go.Proofs.YtdpomgfibjlehaaDoor
