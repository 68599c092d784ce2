/-
  No cell of these rows narrows 'for every input' (looked for: loops, veiled, ifaces, maps, wideKeys, modest, calm, conditions, laid).
  DERIVED. THE GIVEN ROWS OF THIS SEAT. 6 by the template 'for every input the law returns true; each argument reads behind the call as it read before'; 0 by the template 'total and deterministic' (their statements: YtgdlhfmdgibkbaaTotals.lean).
  GIVEN WITH THE SEED: the statements are not yours to turn. If you find one false, say at which input.
  Laid BY PROGRAM, IN A SANDBOX (cutbox-rows.mjs): the forced cells as the released guide's own fill.sh prints them over the translation a563244545990c8c… (all of the seat's roots in one cut). By AI agents, Wed Nov 11 2026. No macro, syntax, notation, axiom, sorry.
-/
import Derived.Test.YtgdlhfmdgibkbaaChecked
import GoSem.Claim
import GoSem.ClaimJoined
import GoSem.ClaimMapViews
import Derived.JoinedTies
import Derived.KernelRfl
namespace Go.Proofs.Ytgdlhfmdgibkbaa
/- THE CELL 'sum', in the pinned program and in every row, IS THE sha256 OF THE DUMP (.gsa) THAT YtgdlhfmdgibkbaaProg.lean LOADS. Nothing in Lean hashes anything: it is a label: what it is worth is what the hold of that sum in a sandbox is worth. -/
noncomputable def Try.pinned : Pinned := { name := "ytgdlhfmdgibkbaa", sum := "a563244545990c8c554b32b0027b098c8beb1b11f0604338b1dde99c049b554f", checked := Try.checked }
namespace Rows
def none {H : Type} : Left H := { results := [], args := [] }

/-- 'berthinglaw01.TickJoins': WHATEVER THE INPUT: true; the input reads as it did. -/
def tickJoinsSpec : ChangeSpec := { name := "tickJoins", fn := fun _ => fun
  | [d] => { results := [.lit (.bool true)], args := [d] }
  | _ => none }
def tickJoinsRow : OpenClaim := { program := "ytgdlhfmdgibkbaa", sum := "a563244545990c8c554b32b0027b098c8beb1b11f0604338b1dde99c049b554f", func := "berthing/berthinglaw01.TickJoins", spec := "tickJoins", unfollowed := true, recurses := true, apart := false }
def TickJoinsSaid : Prop := tickJoinsRow.holds Try.pinned (OpenSpec.ofChange tickJoinsSpec)

/-- ITS FALSE NEIGHBOUR: 'it returns false'. Refute it at one input. -/
def tickJoinsWrong : ChangeSpec := { name := "tickJoins", fn := fun _ => fun
  | [d] => { results := [.lit (.bool false)], args := [d] }
  | _ => none }
def TickJoinsWrongFalsely : Prop := tickJoinsRow.holds Try.pinned (OpenSpec.ofChange tickJoinsWrong)

/-- 'berthinglaw01.TickOrders': WHATEVER THE INPUT: true; the input reads as it did. -/
def tickOrdersSpec : ChangeSpec := { name := "tickOrders", fn := fun _ => fun
  | [d1, d2, d3] => { results := [.lit (.bool true)], args := [d1, d2, d3] }
  | _ => none }
def tickOrdersRow : OpenClaim := { program := "ytgdlhfmdgibkbaa", sum := "a563244545990c8c554b32b0027b098c8beb1b11f0604338b1dde99c049b554f", func := "berthing/berthinglaw01.TickOrders", spec := "tickOrders", unfollowed := true, recurses := true, apart := false }
def TickOrdersSaid : Prop := tickOrdersRow.holds Try.pinned (OpenSpec.ofChange tickOrdersSpec)

/-- ITS FALSE NEIGHBOUR: 'it returns false'. Refute it at one input. -/
def tickOrdersWrong : ChangeSpec := { name := "tickOrders", fn := fun _ => fun
  | [d1, d2, d3] => { results := [.lit (.bool false)], args := [d1, d2, d3] }
  | _ => none }
def TickOrdersWrongFalsely : Prop := tickOrdersRow.holds Try.pinned (OpenSpec.ofChange tickOrdersWrong)

/-- 'berthinglaw01.TickHolds': WHATEVER THE INPUT: true; the input reads as it did. -/
def tickHoldsSpec : ChangeSpec := { name := "tickHolds", fn := fun _ => fun
  | [d1, d2] => { results := [.lit (.bool true)], args := [d1, d2] }
  | _ => none }
def tickHoldsRow : OpenClaim := { program := "ytgdlhfmdgibkbaa", sum := "a563244545990c8c554b32b0027b098c8beb1b11f0604338b1dde99c049b554f", func := "berthing/berthinglaw01.TickHolds", spec := "tickHolds", unfollowed := true, recurses := true, apart := false }
def TickHoldsSaid : Prop := tickHoldsRow.holds Try.pinned (OpenSpec.ofChange tickHoldsSpec)

/-- ITS FALSE NEIGHBOUR: 'it returns false'. Refute it at one input. -/
def tickHoldsWrong : ChangeSpec := { name := "tickHolds", fn := fun _ => fun
  | [d1, d2] => { results := [.lit (.bool false)], args := [d1, d2] }
  | _ => none }
def TickHoldsWrongFalsely : Prop := tickHoldsRow.holds Try.pinned (OpenSpec.ofChange tickHoldsWrong)

/-- 'berthinglaw01.TickSpans': WHATEVER THE INPUT: true; the input reads as it did. -/
def tickSpansSpec : ChangeSpec := { name := "tickSpans", fn := fun _ => fun
  | [d1, d2, d3] => { results := [.lit (.bool true)], args := [d1, d2, d3] }
  | _ => none }
def tickSpansRow : OpenClaim := { program := "ytgdlhfmdgibkbaa", sum := "a563244545990c8c554b32b0027b098c8beb1b11f0604338b1dde99c049b554f", func := "berthing/berthinglaw01.TickSpans", spec := "tickSpans", unfollowed := true, recurses := true, apart := false }
def TickSpansSaid : Prop := tickSpansRow.holds Try.pinned (OpenSpec.ofChange tickSpansSpec)

/-- ITS FALSE NEIGHBOUR: 'it returns false'. Refute it at one input. -/
def tickSpansWrong : ChangeSpec := { name := "tickSpans", fn := fun _ => fun
  | [d1, d2, d3] => { results := [.lit (.bool false)], args := [d1, d2, d3] }
  | _ => none }
def TickSpansWrongFalsely : Prop := tickSpansRow.holds Try.pinned (OpenSpec.ofChange tickSpansWrong)

/-- 'berthinglaw01.TickSums': WHATEVER THE INPUT: true; the input reads as it did. -/
def tickSumsSpec : ChangeSpec := { name := "tickSums", fn := fun _ => fun
  | [d1, d2, d3] => { results := [.lit (.bool true)], args := [d1, d2, d3] }
  | _ => none }
def tickSumsRow : OpenClaim := { program := "ytgdlhfmdgibkbaa", sum := "a563244545990c8c554b32b0027b098c8beb1b11f0604338b1dde99c049b554f", func := "berthing/berthinglaw01.TickSums", spec := "tickSums", unfollowed := true, recurses := true, apart := false }
def TickSumsSaid : Prop := tickSumsRow.holds Try.pinned (OpenSpec.ofChange tickSumsSpec)

/-- ITS FALSE NEIGHBOUR: 'it returns false'. Refute it at one input. -/
def tickSumsWrong : ChangeSpec := { name := "tickSums", fn := fun _ => fun
  | [d1, d2, d3] => { results := [.lit (.bool false)], args := [d1, d2, d3] }
  | _ => none }
def TickSumsWrongFalsely : Prop := tickSumsRow.holds Try.pinned (OpenSpec.ofChange tickSumsWrong)

/-- 'berthinglaw01.TickSteps': WHATEVER THE INPUT: true; the input reads as it did. -/
def tickStepsSpec : ChangeSpec := { name := "tickSteps", fn := fun _ => fun
  | [d1, d2, d3] => { results := [.lit (.bool true)], args := [d1, d2, d3] }
  | _ => none }
def tickStepsRow : OpenClaim := { program := "ytgdlhfmdgibkbaa", sum := "a563244545990c8c554b32b0027b098c8beb1b11f0604338b1dde99c049b554f", func := "berthing/berthinglaw01.TickSteps", spec := "tickSteps", unfollowed := true, recurses := true, apart := false }
def TickStepsSaid : Prop := tickStepsRow.holds Try.pinned (OpenSpec.ofChange tickStepsSpec)

/-- ITS FALSE NEIGHBOUR: 'it returns false'. Refute it at one input. -/
def tickStepsWrong : ChangeSpec := { name := "tickSteps", fn := fun _ => fun
  | [d1, d2, d3] => { results := [.lit (.bool false)], args := [d1, d2, d3] }
  | _ => none }
def TickStepsWrongFalsely : Prop := tickStepsRow.holds Try.pinned (OpenSpec.ofChange tickStepsWrong)

/- THE SECOND FORM. 'bulk': how many values and letters a reading holds, each counted each time it is reached (what is shared counts as often as it is met; a slice's spare places count too). A statement '..UptoSaid' is the law's where the arguments, and the package variables that the reading takes, are together of bulk at most 1048576: NARROWER than '..Said'. Prove '..Said' where nothing that the law and all that it calls make is longer than what came in: it says more and counts as full. Else prove '..UptoSaid'. A law counts once. -/
mutual
def uptoBulk {H : Type} : DataW H → Nat
  | .lit (.string bytes) => bytes.length + 1
  | .lit _ => 1
  | .nil => 1
  | .ptr d => uptoBulk d + 1
  | .slice elems spare => uptoBulkAll elems + uptoBulkAll spare + 1
  | .agg parts => uptoBulkAll parts + 1
  | .iface _ d => uptoBulk d + 1
  | .map entries => uptoBulkEntries entries + 1
  | .held _ => 1
def uptoBulkAll {H : Type} : List (DataW H) → Nat
  | [] => 0
  | d :: r => uptoBulk d + uptoBulkAll r
def uptoBulkEntries {H : Type} : List (Lit × DataW H) → Nat
  | [] => 0
  | x :: r => uptoBulkEntry x + uptoBulkEntries r
def uptoBulkEntry {H : Type} : Lit × DataW H → Nat
  | (.string bytes, d) => bytes.length + uptoBulk d + 1
  | (_, d) => uptoBulk d + 1
 end
def uptoSmall : (H : Type) → List (DataW H) → Bool := fun _ ds => decide (uptoBulkAll ds ≤ 1048576)
def OpenSpec.upto (s : _root_.Go.ChangeSpec) : _root_.Go.OpenSpec := { _root_.Go.OpenSpec.ofChange s with cond := some uptoSmall }

/-- 'berthinglaw01.TickJoins', WHERE WHAT IT READS IS OF BULK AT MOST 1048576: true; the input reads as it did. -/
def tickJoinsUptoRow : OpenClaim := { program := "ytgdlhfmdgibkbaa", sum := "a563244545990c8c554b32b0027b098c8beb1b11f0604338b1dde99c049b554f", func := "berthing/berthinglaw01.TickJoins", spec := "tickJoins", unfollowed := true, recurses := true, apart := false, narrowed := true }
def TickJoinsUptoSaid : Prop := tickJoinsUptoRow.holds Try.pinned (OpenSpec.upto tickJoinsSpec)

/-- 'berthinglaw01.TickOrders', WHERE WHAT IT READS IS OF BULK AT MOST 1048576: true; the input reads as it did. -/
def tickOrdersUptoRow : OpenClaim := { program := "ytgdlhfmdgibkbaa", sum := "a563244545990c8c554b32b0027b098c8beb1b11f0604338b1dde99c049b554f", func := "berthing/berthinglaw01.TickOrders", spec := "tickOrders", unfollowed := true, recurses := true, apart := false, narrowed := true }
def TickOrdersUptoSaid : Prop := tickOrdersUptoRow.holds Try.pinned (OpenSpec.upto tickOrdersSpec)

/-- 'berthinglaw01.TickHolds', WHERE WHAT IT READS IS OF BULK AT MOST 1048576: true; the input reads as it did. -/
def tickHoldsUptoRow : OpenClaim := { program := "ytgdlhfmdgibkbaa", sum := "a563244545990c8c554b32b0027b098c8beb1b11f0604338b1dde99c049b554f", func := "berthing/berthinglaw01.TickHolds", spec := "tickHolds", unfollowed := true, recurses := true, apart := false, narrowed := true }
def TickHoldsUptoSaid : Prop := tickHoldsUptoRow.holds Try.pinned (OpenSpec.upto tickHoldsSpec)

/-- 'berthinglaw01.TickSpans', WHERE WHAT IT READS IS OF BULK AT MOST 1048576: true; the input reads as it did. -/
def tickSpansUptoRow : OpenClaim := { program := "ytgdlhfmdgibkbaa", sum := "a563244545990c8c554b32b0027b098c8beb1b11f0604338b1dde99c049b554f", func := "berthing/berthinglaw01.TickSpans", spec := "tickSpans", unfollowed := true, recurses := true, apart := false, narrowed := true }
def TickSpansUptoSaid : Prop := tickSpansUptoRow.holds Try.pinned (OpenSpec.upto tickSpansSpec)

/-- 'berthinglaw01.TickSums', WHERE WHAT IT READS IS OF BULK AT MOST 1048576: true; the input reads as it did. -/
def tickSumsUptoRow : OpenClaim := { program := "ytgdlhfmdgibkbaa", sum := "a563244545990c8c554b32b0027b098c8beb1b11f0604338b1dde99c049b554f", func := "berthing/berthinglaw01.TickSums", spec := "tickSums", unfollowed := true, recurses := true, apart := false, narrowed := true }
def TickSumsUptoSaid : Prop := tickSumsUptoRow.holds Try.pinned (OpenSpec.upto tickSumsSpec)

/-- 'berthinglaw01.TickSteps', WHERE WHAT IT READS IS OF BULK AT MOST 1048576: true; the input reads as it did. -/
def tickStepsUptoRow : OpenClaim := { program := "ytgdlhfmdgibkbaa", sum := "a563244545990c8c554b32b0027b098c8beb1b11f0604338b1dde99c049b554f", func := "berthing/berthinglaw01.TickSteps", spec := "tickSteps", unfollowed := true, recurses := true, apart := false, narrowed := true }
def TickStepsUptoSaid : Prop := tickStepsUptoRow.holds Try.pinned (OpenSpec.upto tickStepsSpec)

end Rows
end Go.Proofs.Ytgdlhfmdgibkbaa
