/-
  DERIVED. GIVEN WITH THE SEED: THE CARDS: each row of YtmdjhdnejmegfaaDoorRows.lean that lists a variable, with what it lists TIED to the program's text (the seventh form; the later family's looks); each row that meets fmt, with fmt's text TOLD by the authors' own Lean function (tested against real Go, not proved from fmt's source: count such statements apart). THE CARD IS WHAT COUNTS. Prove the row's statement (the work); the ties are given (YtmdjhdnejmegfaaDoorTie.lean); close each card by the builder's one call (the guide's Derived/Test/ToyasCard.lean, 'card_holds'). Laid BY PROGRAM, IN A SANDBOX (cutbox-door.mjs). By AI agents, Wed Nov 11 2026. No macro, syntax, notation, axiom, sorry.
-/
import Derived.Test.YtmdjhdnejmegfaaDoorRows
import GoSem.ClaimSeven
namespace Go.Proofs.YtmdjhdnejmegfaaDoor
namespace Rows

/-- THE TIED CARD OF 'berthinglaw21.RollEnds'. -/
def rollEndsCard : Claim7 := { stood := { row := rollEndsRow, standIns := [], harness := (true, "b6afaffd5a4b9f5a81931855870cc4689175c4191defeca124205b9c3aadaecd"), looks := true }, kinds := [], alts := [], laidByText := true, laidKinds := [.data], laidTests := true, laidLooks := .later }
def RollEndsCardSaid : Prop := Claim7.holds Tryd.pinned (.plain (OpenSpec.ofChange rollEndsSpec)) rollEndsCard

/-- THE TIED CARD OF 'berthinglaw21.RollReads'. -/
def rollReadsCard : Claim7 := { stood := { row := rollReadsRow, standIns := [], harness := (true, "b6afaffd5a4b9f5a81931855870cc4689175c4191defeca124205b9c3aadaecd"), looks := true }, kinds := [], alts := [], laidByText := true, laidKinds := [.data, .handle], laidTests := true, laidLooks := .later }
def RollReadsCardSaid : Prop := Claim7.holds Tryd.pinned (.plain (OpenSpec.ofChange rollReadsSpec)) rollReadsCard

/-- THE SECOND FORM's CARD OF 'berthinglaw21.RollEnds'. -/
def rollEndsUptoCard : Claim7 := { stood := { row := rollEndsUptoRow, standIns := [], harness := (true, "b6afaffd5a4b9f5a81931855870cc4689175c4191defeca124205b9c3aadaecd"), looks := true }, kinds := [], alts := [], laidByText := true, laidKinds := [.data], laidTests := true, laidLooks := .later }
def RollEndsUptoCardSaid : Prop := Claim7.holds Tryd.pinned (.plain (OpenSpec.upto rollEndsSpec)) rollEndsUptoCard

/-- THE SECOND FORM's CARD OF 'berthinglaw21.RollReads'. -/
def rollReadsUptoCard : Claim7 := { stood := { row := rollReadsUptoRow, standIns := [], harness := (true, "b6afaffd5a4b9f5a81931855870cc4689175c4191defeca124205b9c3aadaecd"), looks := true }, kinds := [], alts := [], laidByText := true, laidKinds := [.data, .handle], laidTests := true, laidLooks := .later }
def RollReadsUptoCardSaid : Prop := Claim7.holds Tryd.pinned (.plain (OpenSpec.upto rollReadsSpec)) rollReadsUptoCard
end Rows
end Go.Proofs.YtmdjhdnejmegfaaDoor
