/-
  No cell of these rows narrows 'for every input' (looked for: loops, veiled, ifaces, maps, wideKeys, modest, calm, conditions, laid).
  DERIVED. THE GIVEN ROWS OF THIS SEAT. 4 by the template 'for every input the law returns true; each argument reads behind the call as it read before'; 0 by the template 'total and deterministic' (their statements: YtlddccmgamlccaaTotals.lean).
  GIVEN WITH THE SEED: the statements are not yours to turn. If you find one false, say at which input.
  Laid BY PROGRAM, IN A SANDBOX (cutbox-rows.mjs): the forced cells as the released guide's own fill.sh prints them over the translation 93353e9909606ec3… (all of the seat's roots in one cut). By AI agents, Wed Nov 11 2026. No macro, syntax, notation, axiom, sorry.
-/
import Derived.Test.YtlddccmgamlccaaChecked
import GoSem.Claim
import GoSem.ClaimJoined
import GoSem.ClaimMapViews
import Derived.JoinedTies
import Derived.KernelRfl
namespace Go.Proofs.Ytlddccmgamlccaa
/- THE CELL 'sum', in the pinned program and in every row, IS THE sha256 OF THE DUMP (.gsa) THAT YtlddccmgamlccaaProg.lean LOADS. Nothing in Lean hashes anything: it is a label: what it is worth is what the hold of that sum in a sandbox is worth. -/
noncomputable def Try.pinned : Pinned := { name := "ytlddccmgamlccaa", sum := "93353e9909606ec32228f0591bba2c352b504468b9968445f97ba7dd349976e7", checked := Try.checked }
namespace Rows
def none {H : Type} : Left H := { results := [], args := [] }

/-- 'berthinglaw11.FitRoom': WHATEVER THE INPUT: true; the input reads as it did. -/
def fitRoomSpec : ChangeSpec := { name := "fitRoom", fn := fun _ => fun
  | [d1, d2, d3] => { results := [.lit (.bool true)], args := [d1, d2, d3] }
  | _ => none }
def fitRoomRow : OpenClaim := { program := "ytlddccmgamlccaa", sum := "93353e9909606ec32228f0591bba2c352b504468b9968445f97ba7dd349976e7", func := "berthing/berthinglaw11.FitRoom", spec := "fitRoom", inPlace := ["slices.overlaps[berthing/usage.Step]"], unfollowed := true, recurses := true, apart := false }
def FitRoomSaid : Prop := fitRoomRow.holds Try.pinned (OpenSpec.ofChange fitRoomSpec)

/-- ITS FALSE NEIGHBOUR: 'it returns false'. Refute it at one input. -/
def fitRoomWrong : ChangeSpec := { name := "fitRoom", fn := fun _ => fun
  | [d1, d2, d3] => { results := [.lit (.bool false)], args := [d1, d2, d3] }
  | _ => none }
def FitRoomWrongFalsely : Prop := fitRoomRow.holds Try.pinned (OpenSpec.ofChange fitRoomWrong)

/-- 'berthinglaw11.FitLess': WHATEVER THE INPUT: true; the input reads as it did. -/
def fitLessSpec : ChangeSpec := { name := "fitLess", fn := fun _ => fun
  | [d1, d2, d3] => { results := [.lit (.bool true)], args := [d1, d2, d3] }
  | _ => none }
def fitLessRow : OpenClaim := { program := "ytlddccmgamlccaa", sum := "93353e9909606ec32228f0591bba2c352b504468b9968445f97ba7dd349976e7", func := "berthing/berthinglaw11.FitLess", spec := "fitLess", inPlace := ["slices.overlaps[berthing/usage.Step]"], unfollowed := true, recurses := true, apart := false }
def FitLessSaid : Prop := fitLessRow.holds Try.pinned (OpenSpec.ofChange fitLessSpec)

/-- ITS FALSE NEIGHBOUR: 'it returns false'. Refute it at one input. -/
def fitLessWrong : ChangeSpec := { name := "fitLess", fn := fun _ => fun
  | [d1, d2, d3] => { results := [.lit (.bool false)], args := [d1, d2, d3] }
  | _ => none }
def FitLessWrongFalsely : Prop := fitLessRow.holds Try.pinned (OpenSpec.ofChange fitLessWrong)

/-- 'berthinglaw11.FitFinds': WHATEVER THE INPUT: true; the input reads as it did. -/
def fitFindsSpec : ChangeSpec := { name := "fitFinds", fn := fun _ => fun
  | [d1, d2, d3] => { results := [.lit (.bool true)], args := [d1, d2, d3] }
  | _ => none }
def fitFindsRow : OpenClaim := { program := "ytlddccmgamlccaa", sum := "93353e9909606ec32228f0591bba2c352b504468b9968445f97ba7dd349976e7", func := "berthing/berthinglaw11.FitFinds", spec := "fitFinds", inPlace := ["slices.overlaps[berthing/usage.Step]"], unfollowed := true, recurses := true, apart := false }
def FitFindsSaid : Prop := fitFindsRow.holds Try.pinned (OpenSpec.ofChange fitFindsSpec)

/-- ITS FALSE NEIGHBOUR: 'it returns false'. Refute it at one input. -/
def fitFindsWrong : ChangeSpec := { name := "fitFinds", fn := fun _ => fun
  | [d1, d2, d3] => { results := [.lit (.bool false)], args := [d1, d2, d3] }
  | _ => none }
def FitFindsWrongFalsely : Prop := fitFindsRow.holds Try.pinned (OpenSpec.ofChange fitFindsWrong)

/-- 'berthinglaw11.FitSpans': WHATEVER THE INPUT: true; the input reads as it did. -/
def fitSpansSpec : ChangeSpec := { name := "fitSpans", fn := fun _ => fun
  | [d1, d2, d3] => { results := [.lit (.bool true)], args := [d1, d2, d3] }
  | _ => none }
def fitSpansRow : OpenClaim := { program := "ytlddccmgamlccaa", sum := "93353e9909606ec32228f0591bba2c352b504468b9968445f97ba7dd349976e7", func := "berthing/berthinglaw11.FitSpans", spec := "fitSpans", inPlace := ["slices.overlaps[berthing/usage.Step]"], unfollowed := true, recurses := true, apart := false }
def FitSpansSaid : Prop := fitSpansRow.holds Try.pinned (OpenSpec.ofChange fitSpansSpec)

/-- ITS FALSE NEIGHBOUR: 'it returns false'. Refute it at one input. -/
def fitSpansWrong : ChangeSpec := { name := "fitSpans", fn := fun _ => fun
  | [d1, d2, d3] => { results := [.lit (.bool false)], args := [d1, d2, d3] }
  | _ => none }
def FitSpansWrongFalsely : Prop := fitSpansRow.holds Try.pinned (OpenSpec.ofChange fitSpansWrong)

/- THE SECOND FORM. 'bulk': how many values and letters a reading holds, each counted each time it is reached (what is shared counts as often as it is met; a slice's spare places count too). A statement '..UptoSaid' is the law's where the arguments, and the package variables that the reading takes, are together of bulk at most 1048576: NARROWER than '..Said'. Prove '..Said' where nothing that the law and all that it calls make is longer than what came in: it says more and counts as full. Else prove '..UptoSaid'. A law counts once. -/
mutual
def uptoBulk {H : Type} : DataW H → Nat
  | .lit (.string bytes) => bytes.length + 1
  | .lit _ => 1
  | .nil => 1
  | .ptr d => uptoBulk d + 1
  | .slice elems spare => uptoBulkAll elems + uptoBulkAll spare + 1
  | .agg parts => uptoBulkAll parts + 1
  | .iface _ d => uptoBulk d + 1
  | .map entries => uptoBulkEntries entries + 1
  | .held _ => 1
def uptoBulkAll {H : Type} : List (DataW H) → Nat
  | [] => 0
  | d :: r => uptoBulk d + uptoBulkAll r
def uptoBulkEntries {H : Type} : List (Lit × DataW H) → Nat
  | [] => 0
  | x :: r => uptoBulkEntry x + uptoBulkEntries r
def uptoBulkEntry {H : Type} : Lit × DataW H → Nat
  | (.string bytes, d) => bytes.length + uptoBulk d + 1
  | (_, d) => uptoBulk d + 1
 end
def uptoSmall : (H : Type) → List (DataW H) → Bool := fun _ ds => decide (uptoBulkAll ds ≤ 1048576)
def OpenSpec.upto (s : _root_.Go.ChangeSpec) : _root_.Go.OpenSpec := { _root_.Go.OpenSpec.ofChange s with cond := some uptoSmall }

/-- 'berthinglaw11.FitRoom', WHERE WHAT IT READS IS OF BULK AT MOST 1048576: true; the input reads as it did. -/
def fitRoomUptoRow : OpenClaim := { program := "ytlddccmgamlccaa", sum := "93353e9909606ec32228f0591bba2c352b504468b9968445f97ba7dd349976e7", func := "berthing/berthinglaw11.FitRoom", spec := "fitRoom", inPlace := ["slices.overlaps[berthing/usage.Step]"], unfollowed := true, recurses := true, apart := false, narrowed := true }
def FitRoomUptoSaid : Prop := fitRoomUptoRow.holds Try.pinned (OpenSpec.upto fitRoomSpec)

/-- 'berthinglaw11.FitLess', WHERE WHAT IT READS IS OF BULK AT MOST 1048576: true; the input reads as it did. -/
def fitLessUptoRow : OpenClaim := { program := "ytlddccmgamlccaa", sum := "93353e9909606ec32228f0591bba2c352b504468b9968445f97ba7dd349976e7", func := "berthing/berthinglaw11.FitLess", spec := "fitLess", inPlace := ["slices.overlaps[berthing/usage.Step]"], unfollowed := true, recurses := true, apart := false, narrowed := true }
def FitLessUptoSaid : Prop := fitLessUptoRow.holds Try.pinned (OpenSpec.upto fitLessSpec)

/-- 'berthinglaw11.FitFinds', WHERE WHAT IT READS IS OF BULK AT MOST 1048576: true; the input reads as it did. -/
def fitFindsUptoRow : OpenClaim := { program := "ytlddccmgamlccaa", sum := "93353e9909606ec32228f0591bba2c352b504468b9968445f97ba7dd349976e7", func := "berthing/berthinglaw11.FitFinds", spec := "fitFinds", inPlace := ["slices.overlaps[berthing/usage.Step]"], unfollowed := true, recurses := true, apart := false, narrowed := true }
def FitFindsUptoSaid : Prop := fitFindsUptoRow.holds Try.pinned (OpenSpec.upto fitFindsSpec)

/-- 'berthinglaw11.FitSpans', WHERE WHAT IT READS IS OF BULK AT MOST 1048576: true; the input reads as it did. -/
def fitSpansUptoRow : OpenClaim := { program := "ytlddccmgamlccaa", sum := "93353e9909606ec32228f0591bba2c352b504468b9968445f97ba7dd349976e7", func := "berthing/berthinglaw11.FitSpans", spec := "fitSpans", inPlace := ["slices.overlaps[berthing/usage.Step]"], unfollowed := true, recurses := true, apart := false, narrowed := true }
def FitSpansUptoSaid : Prop := fitSpansUptoRow.holds Try.pinned (OpenSpec.upto fitSpansSpec)

end Rows
end Go.Proofs.Ytlddccmgamlccaa
