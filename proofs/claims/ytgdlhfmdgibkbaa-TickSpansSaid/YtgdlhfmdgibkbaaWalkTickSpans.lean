/-
  The walk of the statement TickSpans of layer tick: the call returns true. Conditions: none.
-/
import Derived.Test.YtgdlhfmdgibkbaaSpansLaw
import Derived.Test.YtgdlhfmdgibkbaaOpens29
namespace Go.Proofs.Ytgdlhfmdgibkbaa.PTick
open Go.RowKit Go.Proofs.YtgdlhfmdgibkbaaW.PrintWords Go.Proofs.YtgdlhfmdgibkbaaW.PrintLast Go.Proofs.YtgdlhfmdgibkbaaW.PrintMore Go.Proofs.Ytgdlhfmdgibkbaa.ArgOpen

theorem TickSpans_walk (s o : S29) (t : Int) (W : World) (_ : True) (_ : True) (_ : (Lit.int .i64 t).wf = true) :
    Calls Try.prog 6 #[.agg #[.int .i64 s.f0, .int .i64 s.f1], .agg #[.int .i64 o.f0, .int .i64 o.f1], .int .i64 t] W fun e w' => e = .returned (.bool true) ∧ Below W.heap.size W w' :=
  berthinglaw01_TickSpans.calls 9 s.f0 s.f1 o.f0 o.f1 t true W (TickSpans_law s.f0 s.f1 o.f0 o.f1 t)
end Go.Proofs.Ytgdlhfmdgibkbaa.PTick
