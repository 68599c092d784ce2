/- By a program of this session (the print, with contracts written by hand let in), key Sc: what the functions come to as Lean functions, and the contracts that lead from the Go code to them. Conditions: those of the statements. -/
import Derived.Test.YtkkjjogbfjahgaaDoorPScx0
import Derived.Lib.SliceRun
namespace Go.Proofs.YtkkjjogbfjahgaaDoor.PSc
open Go.RowKit Go.Proofs.YtkkjjogbfjahgaaDoorW.PrintWords Go.Proofs.YtkkjjogbfjahgaaDoorW.PrintLast Go.Proofs.YtkkjjogbfjahgaaDoorW.PrintMore
attribute [local go_sem] max2_int min2_int max_two min_two max_three min_three max_four min_four   -- for this text's walks alone
set_option linter.unusedVariables false
set_option linter.unusedSimpArgs false

set_option maxRecDepth 100000 in
theorem ix95_0 (w : World) (a0 a1 a2 a3 a4 a5 a6 a7 a8 a9 a10 a11 : Int) : (Instr.index 95 (.agg #[.int .i64 a0, .int .i64 a1, .int .i64 a2, .int .i64 a3, .int .i64 a4, .int .i64 a5, .int .i64 a6, .int .i64 a7, .int .i64 a8, .int .i64 a9, .int .i64 a10, .int .i64 a11]) (.int .i64 0)).run Tryd.prog w = .ok (.int .i64 a0) w :=
 run_index_arr w Tryd.underlying95 Tryd.underlying2 (by rfl) (by kernel_rfl) (by decide) (by decide) rfl
set_option maxRecDepth 100000 in
theorem ix95_1 (w : World) (a0 a1 a2 a3 a4 a5 a6 a7 a8 a9 a10 a11 : Int) : (Instr.index 95 (.agg #[.int .i64 a0, .int .i64 a1, .int .i64 a2, .int .i64 a3, .int .i64 a4, .int .i64 a5, .int .i64 a6, .int .i64 a7, .int .i64 a8, .int .i64 a9, .int .i64 a10, .int .i64 a11]) (.int .i64 1)).run Tryd.prog w = .ok (.int .i64 a1) w :=
 run_index_arr w Tryd.underlying95 Tryd.underlying2 (by rfl) (by kernel_rfl) (by decide) (by decide) rfl
set_option maxRecDepth 100000 in
theorem ix95_2 (w : World) (a0 a1 a2 a3 a4 a5 a6 a7 a8 a9 a10 a11 : Int) : (Instr.index 95 (.agg #[.int .i64 a0, .int .i64 a1, .int .i64 a2, .int .i64 a3, .int .i64 a4, .int .i64 a5, .int .i64 a6, .int .i64 a7, .int .i64 a8, .int .i64 a9, .int .i64 a10, .int .i64 a11]) (.int .i64 2)).run Tryd.prog w = .ok (.int .i64 a2) w :=
 run_index_arr w Tryd.underlying95 Tryd.underlying2 (by rfl) (by kernel_rfl) (by decide) (by decide) rfl
set_option maxRecDepth 100000 in
theorem ix95_3 (w : World) (a0 a1 a2 a3 a4 a5 a6 a7 a8 a9 a10 a11 : Int) : (Instr.index 95 (.agg #[.int .i64 a0, .int .i64 a1, .int .i64 a2, .int .i64 a3, .int .i64 a4, .int .i64 a5, .int .i64 a6, .int .i64 a7, .int .i64 a8, .int .i64 a9, .int .i64 a10, .int .i64 a11]) (.int .i64 3)).run Tryd.prog w = .ok (.int .i64 a3) w :=
 run_index_arr w Tryd.underlying95 Tryd.underlying2 (by rfl) (by kernel_rfl) (by decide) (by decide) rfl
set_option maxRecDepth 100000 in
theorem ix95_4 (w : World) (a0 a1 a2 a3 a4 a5 a6 a7 a8 a9 a10 a11 : Int) : (Instr.index 95 (.agg #[.int .i64 a0, .int .i64 a1, .int .i64 a2, .int .i64 a3, .int .i64 a4, .int .i64 a5, .int .i64 a6, .int .i64 a7, .int .i64 a8, .int .i64 a9, .int .i64 a10, .int .i64 a11]) (.int .i64 4)).run Tryd.prog w = .ok (.int .i64 a4) w :=
 run_index_arr w Tryd.underlying95 Tryd.underlying2 (by rfl) (by kernel_rfl) (by decide) (by decide) rfl
set_option maxRecDepth 100000 in
theorem ix95_5 (w : World) (a0 a1 a2 a3 a4 a5 a6 a7 a8 a9 a10 a11 : Int) : (Instr.index 95 (.agg #[.int .i64 a0, .int .i64 a1, .int .i64 a2, .int .i64 a3, .int .i64 a4, .int .i64 a5, .int .i64 a6, .int .i64 a7, .int .i64 a8, .int .i64 a9, .int .i64 a10, .int .i64 a11]) (.int .i64 5)).run Tryd.prog w = .ok (.int .i64 a5) w :=
 run_index_arr w Tryd.underlying95 Tryd.underlying2 (by rfl) (by kernel_rfl) (by decide) (by decide) rfl
set_option maxRecDepth 100000 in
theorem ix95_6 (w : World) (a0 a1 a2 a3 a4 a5 a6 a7 a8 a9 a10 a11 : Int) : (Instr.index 95 (.agg #[.int .i64 a0, .int .i64 a1, .int .i64 a2, .int .i64 a3, .int .i64 a4, .int .i64 a5, .int .i64 a6, .int .i64 a7, .int .i64 a8, .int .i64 a9, .int .i64 a10, .int .i64 a11]) (.int .i64 6)).run Tryd.prog w = .ok (.int .i64 a6) w :=
 run_index_arr w Tryd.underlying95 Tryd.underlying2 (by rfl) (by kernel_rfl) (by decide) (by decide) rfl
set_option maxRecDepth 100000 in
theorem ix95_7 (w : World) (a0 a1 a2 a3 a4 a5 a6 a7 a8 a9 a10 a11 : Int) : (Instr.index 95 (.agg #[.int .i64 a0, .int .i64 a1, .int .i64 a2, .int .i64 a3, .int .i64 a4, .int .i64 a5, .int .i64 a6, .int .i64 a7, .int .i64 a8, .int .i64 a9, .int .i64 a10, .int .i64 a11]) (.int .i64 7)).run Tryd.prog w = .ok (.int .i64 a7) w :=
 run_index_arr w Tryd.underlying95 Tryd.underlying2 (by rfl) (by kernel_rfl) (by decide) (by decide) rfl
set_option maxRecDepth 100000 in
theorem ix95_8 (w : World) (a0 a1 a2 a3 a4 a5 a6 a7 a8 a9 a10 a11 : Int) : (Instr.index 95 (.agg #[.int .i64 a0, .int .i64 a1, .int .i64 a2, .int .i64 a3, .int .i64 a4, .int .i64 a5, .int .i64 a6, .int .i64 a7, .int .i64 a8, .int .i64 a9, .int .i64 a10, .int .i64 a11]) (.int .i64 8)).run Tryd.prog w = .ok (.int .i64 a8) w :=
 run_index_arr w Tryd.underlying95 Tryd.underlying2 (by rfl) (by kernel_rfl) (by decide) (by decide) rfl
set_option maxRecDepth 100000 in
theorem ix95_9 (w : World) (a0 a1 a2 a3 a4 a5 a6 a7 a8 a9 a10 a11 : Int) : (Instr.index 95 (.agg #[.int .i64 a0, .int .i64 a1, .int .i64 a2, .int .i64 a3, .int .i64 a4, .int .i64 a5, .int .i64 a6, .int .i64 a7, .int .i64 a8, .int .i64 a9, .int .i64 a10, .int .i64 a11]) (.int .i64 9)).run Tryd.prog w = .ok (.int .i64 a9) w :=
 run_index_arr w Tryd.underlying95 Tryd.underlying2 (by rfl) (by kernel_rfl) (by decide) (by decide) rfl
set_option maxRecDepth 100000 in
theorem ix95_10 (w : World) (a0 a1 a2 a3 a4 a5 a6 a7 a8 a9 a10 a11 : Int) : (Instr.index 95 (.agg #[.int .i64 a0, .int .i64 a1, .int .i64 a2, .int .i64 a3, .int .i64 a4, .int .i64 a5, .int .i64 a6, .int .i64 a7, .int .i64 a8, .int .i64 a9, .int .i64 a10, .int .i64 a11]) (.int .i64 10)).run Tryd.prog w = .ok (.int .i64 a10) w :=
 run_index_arr w Tryd.underlying95 Tryd.underlying2 (by rfl) (by kernel_rfl) (by decide) (by decide) rfl
set_option maxRecDepth 100000 in
theorem ix95_11 (w : World) (a0 a1 a2 a3 a4 a5 a6 a7 a8 a9 a10 a11 : Int) : (Instr.index 95 (.agg #[.int .i64 a0, .int .i64 a1, .int .i64 a2, .int .i64 a3, .int .i64 a4, .int .i64 a5, .int .i64 a6, .int .i64 a7, .int .i64 a8, .int .i64 a9, .int .i64 a10, .int .i64 a11]) (.int .i64 11)).run Tryd.prog w = .ok (.int .i64 a11) w :=
 run_index_arr w Tryd.underlying95 Tryd.underlying2 (by rfl) (by kernel_rfl) (by decide) (by decide) rfl
end Go.Proofs.YtkkjjogbfjahgaaDoor.PSc
