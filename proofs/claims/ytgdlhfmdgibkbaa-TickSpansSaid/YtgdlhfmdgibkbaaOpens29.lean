/-
  A span that came in, read as the print's kind. Conditions: none.
-/
import Derived.Test.YtgdlhfmdgibkbaaArgOpen
import Derived.Test.YtgdlhfmdgibkbaaPTickx0
namespace Go.Proofs.Ytgdlhfmdgibkbaa.PTick
open Go.RowKit Go.Proofs.YtgdlhfmdgibkbaaW.PrintWords Go.Proofs.YtgdlhfmdgibkbaaW.PrintLast Go.Proofs.YtgdlhfmdgibkbaaW.PrintMore Go.Proofs.Ytgdlhfmdgibkbaa.ArgOpen

theorem opens29 {H : Type} {enc : TypeId × Value → H} {w : World} : Opens enc Try.prog w 29 k29 (fun _ => True) := by
  intro fuel cs x h
  obtain ⟨c0, c1, n, y0, y1, rfl, h0, h1⟩ := opens_two Try.underlying29 (by kernel_rfl) (by kernel_rfl) h
  obtain ⟨a, e0, _, _⟩ := DataW.trod_int Try.underlying27 h0
  obtain ⟨b, e1, _, _⟩ := DataW.trod_int Try.underlying27 h1
  simp only [List.cons.injEq, and_true] at e0 e1
  subst e0 e1
  exact ⟨⟨a, b⟩, k29_mk w ⟨a, b⟩, trivial⟩

end Go.Proofs.Ytgdlhfmdgibkbaa.PTick
