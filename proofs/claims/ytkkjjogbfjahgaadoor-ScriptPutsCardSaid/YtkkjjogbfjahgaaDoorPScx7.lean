/- By a program of this session (the print, with contracts written by hand let in), key Sc: what the functions come to as Lean functions, and the contracts that lead from the Go code to them. Conditions: those of the statements. -/
import Derived.Test.YtkkjjogbfjahgaaDoorPScx0
import Derived.Lib.SliceRun
namespace Go.Proofs.YtkkjjogbfjahgaaDoor.PSc
open Go.RowKit Go.Proofs.YtkkjjogbfjahgaaDoorW.PrintWords Go.Proofs.YtkkjjogbfjahgaaDoorW.PrintLast Go.Proofs.YtkkjjogbfjahgaaDoorW.PrintMore
attribute [local go_sem] max2_int min2_int max_two min_two max_three min_three max_four min_four   -- for this text's walks alone
set_option linter.unusedVariables false
set_option linter.unusedSimpArgs false

set_option maxRecDepth 100000 in
theorem sb42 (x y : Value) : Instr.storeAt 42 x y = bigStore 42 x y := rfl
theorem sv42 (w : World) (g : Nat) (x0 : Int) (x1 : Int) (x2 : Int) (x3 : Int) (x4 : Int) (x5 : Int) (x6 : Int) (x7 : Int) (x8 : Int) (x9 : Int) (x10 : Int) (x11 : Int) (x12 : Bool) (x13 : ByteArray) (x14 : Int) (x15 : Int) (x16 : Int) (x17 : Int) (x18 : Int) (hc : allCells w g 19 = true) :
 (bigStore 42 (.pointer (some ⟨g, 0, none⟩)) (.agg #[.int .i64 x0, .int .i64 x1, .int .i64 x2, .int .i64 x3, .int .i64 x4, .int .i64 x5, .int .i64 x6, .int .i64 x7, .int .i64 x8, .int .i64 x9, .int .i64 x10, .int .i64 x11, .bool x12, .string x13, .int .i64 x14, .int .i64 x15, .int .i64 x16, .int .i64 x17, .int .i64 x18])).run Tryd.prog w = .ok () (((((((((((((((((((w.setCell ⟨g, 0, none⟩ (.int .i64 x0)).setCell ⟨g, 1, none⟩ (.int .i64 x1)).setCell ⟨g, 2, none⟩ (.int .i64 x2)).setCell ⟨g, 3, none⟩ (.int .i64 x3)).setCell ⟨g, 4, none⟩ (.int .i64 x4)).setCell ⟨g, 5, none⟩ (.int .i64 x5)).setCell ⟨g, 6, none⟩ (.int .i64 x6)).setCell ⟨g, 7, none⟩ (.int .i64 x7)).setCell ⟨g, 8, none⟩ (.int .i64 x8)).setCell ⟨g, 9, none⟩ (.int .i64 x9)).setCell ⟨g, 10, none⟩ (.int .i64 x10)).setCell ⟨g, 11, none⟩ (.int .i64 x11)).setCell ⟨g, 12, none⟩ (.bool x12)).setCell ⟨g, 13, none⟩ (.string x13)).setCell ⟨g, 14, none⟩ (.int .i64 x14)).setCell ⟨g, 15, none⟩ (.int .i64 x15)).setCell ⟨g, 16, none⟩ (.int .i64 x16)).setCell ⟨g, 17, none⟩ (.int .i64 x17)).setCell ⟨g, 18, none⟩ (.int .i64 x18)) :=
 run_bigStore w g 42 _ (by kernel_rfl) (by simp [Value.oneCell']) hc
end Go.Proofs.YtkkjjogbfjahgaaDoor.PSc
