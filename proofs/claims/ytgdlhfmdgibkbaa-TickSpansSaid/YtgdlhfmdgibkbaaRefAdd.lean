/-
  The reference's sum of two times, over the printed functions. Conditions: none.
-/
import Derived.Test.YtgdlhfmdgibkbaaJoinLaw
import Derived.Test.YtgdlhfmdgibkbaaPTickx11
namespace Go.Proofs.Ytgdlhfmdgibkbaa.PTick
open Go.RowKit Go.Proofs.YtgdlhfmdgibkbaaW.PrintWords Go.Proofs.YtgdlhfmdgibkbaaW.PrintLast Go.Proofs.YtgdlhfmdgibkbaaW.PrintMore
theorem refAdd_tells (a b : Int) : berthingref01_Add.f a b = some (cl (cl a + cl b)) := by
  unfold berthingref01_Add.f
  have ha := cl_range a
  have hb := cl_range b
  rw [ref_Clamp_tells, ref_Clamp_tells]
  simp only [Option.bind_some]
  rw [ref_Clamp_tells, wrap_small (by omega) (by omega)]
  rfl
end Go.Proofs.Ytgdlhfmdgibkbaa.PTick
