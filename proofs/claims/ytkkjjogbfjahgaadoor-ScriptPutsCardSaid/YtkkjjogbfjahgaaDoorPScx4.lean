/- By a program of this session (the print, with contracts written by hand let in), key Sc: what the functions come to as Lean functions, and the contracts that lead from the Go code to them. Conditions: those of the statements. -/
import Derived.Test.YtkkjjogbfjahgaaDoorPScx0
import Derived.Lib.SliceRun
namespace Go.Proofs.YtkkjjogbfjahgaaDoor.PSc
open Go.RowKit Go.Proofs.YtkkjjogbfjahgaaDoorW.PrintWords Go.Proofs.YtkkjjogbfjahgaaDoorW.PrintLast Go.Proofs.YtkkjjogbfjahgaaDoorW.PrintMore
attribute [local go_sem] max2_int min2_int max_two min_two max_three min_three max_four min_four   -- for this text's walks alone
set_option linter.unusedVariables false
set_option linter.unusedSimpArgs false

set_option maxRecDepth 100000 in
theorem ix40_0 (w : World) (a0 a1 a2 a3 : Int) : (Instr.index 40 (.agg #[.int .i64 a0, .int .i64 a1, .int .i64 a2, .int .i64 a3]) (.int .i64 0)).run Tryd.prog w = .ok (.int .i64 a0) w :=
 run_index_arr w Tryd.underlying40 Tryd.underlying3 (by rfl) (by kernel_rfl) (by decide) (by decide) rfl
set_option maxRecDepth 100000 in
theorem ix40_1 (w : World) (a0 a1 a2 a3 : Int) : (Instr.index 40 (.agg #[.int .i64 a0, .int .i64 a1, .int .i64 a2, .int .i64 a3]) (.int .i64 1)).run Tryd.prog w = .ok (.int .i64 a1) w :=
 run_index_arr w Tryd.underlying40 Tryd.underlying3 (by rfl) (by kernel_rfl) (by decide) (by decide) rfl
set_option maxRecDepth 100000 in
theorem ix40_2 (w : World) (a0 a1 a2 a3 : Int) : (Instr.index 40 (.agg #[.int .i64 a0, .int .i64 a1, .int .i64 a2, .int .i64 a3]) (.int .i64 2)).run Tryd.prog w = .ok (.int .i64 a2) w :=
 run_index_arr w Tryd.underlying40 Tryd.underlying3 (by rfl) (by kernel_rfl) (by decide) (by decide) rfl
set_option maxRecDepth 100000 in
theorem ix40_3 (w : World) (a0 a1 a2 a3 : Int) : (Instr.index 40 (.agg #[.int .i64 a0, .int .i64 a1, .int .i64 a2, .int .i64 a3]) (.int .i64 3)).run Tryd.prog w = .ok (.int .i64 a3) w :=
 run_index_arr w Tryd.underlying40 Tryd.underlying3 (by rfl) (by kernel_rfl) (by decide) (by decide) rfl
end Go.Proofs.YtkkjjogbfjahgaaDoor.PSc
