/- A plain region in a round of a range over a function, walked as outside of it. Conditions: those that each theorem states. -/
import Derived.Test.YtkbjlaknhedekaaDoorAuH
import Derived.RangeFuncNested
import Derived.RangeFuncCalls
import Derived.RangeFuncLeaves
import Derived.TacticsInMore
import Derived.Sort.QuietIn
import Derived.OwnWalkIn
set_option linter.unusedVariables false
set_option linter.unusedSimpArgs false
/- A plain region in a round of a range over a function, walked as outside of it. -/
namespace Go.Proofs.YtkbjlaknhedekaaDoor.Sm
open Go
variable {P : Program} {ops : Array Oper} {Q : Exit → Act → World → Prop} {n : Nat}
theorem oper_round {o : Oper} {a : Act} {w : World} {K K' : Act → World → Prop} (l : Nat) (ho : ∀ c, o.op ≠ .defer c) (hK : ∀ a w, K a w → K' a w) (h : o.wp P a w K Q) : o.wpIn (Fence.wide.inRound l) n P a w K' Q := by
  unfold Oper.wpIn
  unfold Oper.wp at h
  rw [Oper.semAt_plain _ _ _ ho]
  refine ⟨fun f _ => trivial, ?_⟩
  generalize (execOp a.eval o).run P w = r at *
  cases r with
  | ok x w' =>
    cases x
    case value v => exact hK _ _ h
    case skip => exact hK _ _ h
    case defer d => exact hK _ _ h
    case enter f args =>
      refine ⟨(fun hh => by cases hh), CallsIn.inRound l (callsIn_wide.2 (Calls.mono h fun e w'' hh => ?_))⟩
      cases e with
      | returned v => exact hK _ _ hh
      | panicked c => exact hh
      | outgrown => exact hh
    case row s args => exact ⟨(fun hh => by cases hh), fun c cs _ => let ⟨v, w', r, s⟩ := h c cs; ⟨v, w', hK _ _ r, stepsIn_wide.2 s⟩⟩
    all_goals exact h.elim
  | halt x w' => cases x <;> first | exact h | exact h.elim
theorem list_round (l : Nat) (hno : ¬ LetsOut Q) : ∀ (rest : List Oper) (a : Act) (w : World), (∀ o ∈ rest, ∀ c, o.op ≠ .defer c) → wpList P ops Q rest a w → wpListIn (Fence.wide.inRound l) n P ops Q rest a w
  | [], a, w, _, h => h
  | o :: rest, a, w, hd, h => by
    unfold wpList at h
    unfold wpListIn
    split
    · rename_i hw
      rw [if_pos hw] at h
      rcases h with h | h
      · exact oper_round l (hd o (List.mem_cons_self ..)) (fun a w hh => list_round l hno rest a w (fun o ho => hd o (List.mem_cons_of_mem _ ho)) hh) h
      · exact absurd h.2 hno
    · rename_i hw
      rw [if_neg hw] at h
      exact ⟨fun f _ => trivial, list_round l hno rest _ w (fun o ho => hd o (List.mem_cons_of_mem _ ho)) h⟩
theorem region_round {id : Nat} {a : Act} {w : World} (l : Nat) (hno : ¬ LetsOut Q) (hd : ∀ o ∈ ops.toList, ∀ c, o.op ≠ .defer c) (h : wpList P ops Q ops.toList a w) : (Code.region id ops false).wpIn (Fence.wide.inRound l) n P Q a w := by
  refine wpIn_region ?_
  have := list_round (n := n) l hno _ _ _ hd h
  rw [← wpOpsIn_eq_wpListIn ops.toList 0 (fun j => by simp)] at this
  rw [List.range_eq_range']
  simpa using this
end Go.Proofs.YtkbjlaknhedekaaDoor.Sm
