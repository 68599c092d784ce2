/-
  The walk of the statement TickHolds of layer tick: the call returns true. Conditions: none.
-/
import Derived.Test.YtgdlhfmdgibkbaaHoldsLaw
import Derived.Test.YtgdlhfmdgibkbaaOpens29
namespace Go.Proofs.Ytgdlhfmdgibkbaa.PTick
open Go.RowKit Go.Proofs.YtgdlhfmdgibkbaaW.PrintWords Go.Proofs.YtgdlhfmdgibkbaaW.PrintLast Go.Proofs.YtgdlhfmdgibkbaaW.PrintMore Go.Proofs.Ytgdlhfmdgibkbaa.ArgOpen

theorem TickHolds_walk (A : Option Addr) (c : Nat) (l : List S29) (t : Int) (W : World) (hr : Kd.C k29 W A l.length l) (hc : l.length ≤ c) (_ : ∀ y ∈ l, True) (_ : (Lit.int .i64 t).wf = true) :
    Calls Try.prog 5 #[.slice A l.length c, .int .i64 t] W fun e w' => e = .returned (.bool true) ∧ Below W.heap.size W w' := by
  by_cases h : 40 < l.length
  · obtain ⟨k, hk⟩ := TickHolds_T_law l t h
    exact berthinglaw01_TickHolds_T.calls k A c l t true W hr hc hk
  · obtain ⟨k, hk⟩ := TickHolds_F_law l t h
    exact berthinglaw01_TickHolds_F.calls k A c l t true W hr hc hk
end Go.Proofs.Ytgdlhfmdgibkbaa.PTick
