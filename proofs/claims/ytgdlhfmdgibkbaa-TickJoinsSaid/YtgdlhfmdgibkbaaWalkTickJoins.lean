/-
  The walk of the statement TickJoins of layer tick: the call returns true. Conditions: none.
-/
import Derived.Test.YtgdlhfmdgibkbaaJoinsLaw
import Derived.Test.YtgdlhfmdgibkbaaOpens29
namespace Go.Proofs.Ytgdlhfmdgibkbaa.PTick
open Go.RowKit Go.Proofs.YtgdlhfmdgibkbaaW.PrintWords Go.Proofs.YtgdlhfmdgibkbaaW.PrintLast Go.Proofs.YtgdlhfmdgibkbaaW.PrintMore Go.Proofs.Ytgdlhfmdgibkbaa.ArgOpen

theorem TickJoins_walk (A : Option Addr) (c : Nat) (l : List S29) (W : World) (hr : Kd.C k29 W A l.length l) (hc : l.length ≤ c) (_ : ∀ y ∈ l, True) :
    Calls Try.prog 3 #[.slice A l.length c] W fun e w' => e = .returned (.bool true) ∧ Below W.heap.size W w' := by
  by_cases h : 60 < l.length
  · exact berthinglaw01_TickJoins_T.calls 6000 A c l true W hr hc (TickJoins_T_law l h)
  · exact berthinglaw01_TickJoins_F.calls 6000 A c l true W hr hc (TickJoins_F_law l h)
end Go.Proofs.Ytgdlhfmdgibkbaa.PTick
