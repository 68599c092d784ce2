/- By a program of this session (the print, with contracts written by hand let in), key Sc: what the functions come to as Lean functions, and the contracts that lead from the Go code to them. Conditions: those of the statements. -/
import Derived.Test.YtkkjjogbfjahgaaDoorUK
import Derived.Test.YtkkjjogbfjahgaaDoorPScx0
import Derived.Lib.SliceRun
namespace Go.Proofs.YtkkjjogbfjahgaaDoor.PSc
open Go.Proofs.YtkkjjogbfjahgaaDoor.Us Go.RowKit Go.Proofs.YtkkjjogbfjahgaaDoorW.PrintWords Go.Proofs.YtkkjjogbfjahgaaDoorW.PrintLast Go.Proofs.YtkkjjogbfjahgaaDoorW.PrintMore
attribute [local go_sem] max2_int min2_int max_two min_two max_three min_three max_four min_four   -- for this text's walks alone
set_option linter.unusedVariables false
set_option linter.unusedSimpArgs false

/-! ### cmd_Command_Clean: function 26 -/
def cmd_Command_Clean.j0 : Nat → Int → Bool → Int → Int → Int → Int → Int → Int → Int → Int → Int → Int → Int → Bool → Int → Int → Int → Int → Int → Int → Int → Int → Int → Int → Int → Bool → Option (Int × Int × Int × Int × Int × Int × Int × Int × Int × Int × Int × Bool)
 | 0, _, _, _, _, _, _, _, _, _, _, _, _, _, _, _, _, _, _, _, _, _, _, _, _, _, _ => none
 | k + 1, x8, x33, x157000, x157001, x157002, x157003, x157004, x157005, x157006, x157007, x157008, x157009, x157010, x157011, x159000, x159001, x159002, x159003, x159004, x159005, x159006, x159007, x159008, x159009, x159010, x159011 => if x33 = true then (some (x159000, x157001, x159002, x159003, x159004, x159005, x159006, x159007, x159008, x159009, x159010, x159011)) else (if x8 = 5 then (some (x159000, x157001, x159002, x159003, x159004, x159005, x159006, x159007, x159008, x157009, x159010, x159011)) else (if x8 = 6 then (some (x159000, x159001, x159002, x157003, x157004, x159005, x159006, x159007, x159008, x157009, x157010, x159011)) else (if x8 = 7 then (some (x159000, x157001, x159002, x157003, x159004, x159005, x159006, x159007, x159008, x159009, x159010, x159011)) else (if x8 = 8 then (some (x159000, x159001, x159002, x157003, x157004, x159005, x159006, x159007, x159008, x159009, x159010, x159011)) else (if x8 = 9 then (some (x159000, x159001, x159002, x157003, x159004, x159005, x159006, x159007, x159008, x159009, x159010, x159011)) else (if x8 = 10 then (some (x159000, x159001, x159002, x159003, x159004, x159005, x159006, x159007, x159008, x157009, x159010, x159011)) else (if x8 = 11 then (some (x159000, x159001, x159002, x157003, x159004, x159005, x159006, x157007, x157008, x159009, x159010, x159011)) else (some (0, 0, 0, 0, 0, 0, 0, 0, 0, 0, 0, false)))))))))
def cmd_Command_Clean.f (k : Nat) (a0_0 : Int) (a0_1 : Int) (a0_2 : Int) (a0_3 : Int) (a0_4 : Int) (a0_5 : Int) (a0_6 : Int) (a0_7 : Int) (a0_8 : Int) (a0_9 : Int) (a0_10 : Int) (a0_11 : Bool) : Option (Int × Int × Int × Int × Int × Int × Int × Int × Int × Int × Int × Bool) := if a0_0 = 1 then (some (a0_0, 0, a0_2, a0_3, a0_4, a0_5, a0_6, 0, 0, a0_9, 0, a0_11)) else (if a0_0 = 2 then (cmd_Command_Clean.j0 k a0_0 (a0_0 == 2) a0_0 a0_1 a0_2 a0_3 a0_4 a0_5 a0_6 a0_7 a0_8 a0_9 a0_10 a0_11 a0_0 0 0 0 0 0 0 0 0 0 0 false) else (if a0_0 = 3 then (cmd_Command_Clean.j0 k a0_0 (a0_0 == 3) a0_0 a0_1 a0_2 a0_3 a0_4 a0_5 a0_6 a0_7 a0_8 a0_9 a0_10 a0_11 a0_0 0 0 0 0 0 0 0 0 0 0 false) else (if a0_0 = 4 then (cmd_Command_Clean.j0 k a0_0 (a0_0 == 4) a0_0 a0_1 a0_2 a0_3 a0_4 a0_5 a0_6 a0_7 a0_8 a0_9 a0_10 a0_11 a0_0 0 0 0 0 0 0 0 0 0 0 false) else (cmd_Command_Clean.j0 k a0_0 (a0_0 == 12) a0_0 a0_1 a0_2 a0_3 a0_4 a0_5 a0_6 a0_7 a0_8 a0_9 a0_10 a0_11 a0_0 0 0 0 0 0 0 0 0 0 0 false))))
theorem cmd_Command_Clean.mono_l : ∀ k, (∀ y0 y1 y2 y3 y4 y5 y6 y7 y8 y9 y10 y11 y12 y13 y14 y15 y16 y17 y18 y19 y20 y21 y22 y23 y24 y25, LeO (cmd_Command_Clean.j0 k y0 y1 y2 y3 y4 y5 y6 y7 y8 y9 y10 y11 y12 y13 y14 y15 y16 y17 y18 y19 y20 y21 y22 y23 y24 y25) (cmd_Command_Clean.j0 (k + 1) y0 y1 y2 y3 y4 y5 y6 y7 y8 y9 y10 y11 y12 y13 y14 y15 y16 y17 y18 y19 y20 y21 y22 y23 y24 y25))
 | 0 => fun _ _ _ _ _ _ _ _ _ _ _ _ _ _ _ _ _ _ _ _ _ _ _ _ _ _ r h => by simp [cmd_Command_Clean.j0] at h
 | k + 1 => by
  have ih0 := cmd_Command_Clean.mono_l k
  ·intro y0 y1 y2 y3 y4 y5 y6 y7 y8 y9 y10 y11 y12 y13 y14 y15 y16 y17 y18 y19 y20 y21 y22 y23 y24 y25
   unfold cmd_Command_Clean.j0
   repeat' first
   | (with_reducible exact ih0 _ _ _ _ _ _ _ _ _ _ _ _ _ _ _ _ _ _ _ _ _ _ _ _ _ _)
   | (with_reducible exact LeO.refl _)
   | (with_reducible exact LeO.none _)
   | (with_reducible refine LeO.ite ?_ ?_)
   | (with_reducible refine LeO.bind ?_ (fun _ => ?_))
   | exact ih0 _ _ _ _ _ _ _ _ _ _ _ _ _ _ _ _ _ _ _ _ _ _ _ _ _ _
   | exact LeO.none _
   | refine LeO.ite ?_ ?_
   | refine LeO.bind ?_ (fun _ => ?_)
theorem cmd_Command_Clean.mono : ∀ a0 a1 a2 a3 a4 a5 a6 a7 a8 a9 a10 a11 k, LeO (cmd_Command_Clean.f k a0 a1 a2 a3 a4 a5 a6 a7 a8 a9 a10 a11) (cmd_Command_Clean.f (k + 1) a0 a1 a2 a3 a4 a5 a6 a7 a8 a9 a10 a11) := by
 intro a0 a1 a2 a3 a4 a5 a6 a7 a8 a9 a10 a11 k
 have ih0 := cmd_Command_Clean.mono_l k
 unfold cmd_Command_Clean.f
 repeat' first
   | (with_reducible exact ih0 _ _ _ _ _ _ _ _ _ _ _ _ _ _ _ _ _ _ _ _ _ _ _ _ _ _)
   | (with_reducible exact LeO.refl _)
   | (with_reducible exact LeO.none _)
   | (with_reducible refine LeO.ite ?_ ?_)
   | (with_reducible refine LeO.bind ?_ (fun _ => ?_))
   | exact ih0 _ _ _ _ _ _ _ _ _ _ _ _ _ _ _ _ _ _ _ _ _ _ _ _ _ _
   | exact LeO.none _
   | refine LeO.ite ?_ ?_
   | refine LeO.bind ?_ (fun _ => ?_)
def cmd_Command_Clean.T5 : Bool × List (List Nat × List Nat) := (true, [([], []), ([0], [0]), ([], []), ([2], [2]), ([], []), ([4], [4]), ([], []), ([6], [6]), ([], []), ([8], [8]), ([0, 1], []), ([10, 1, 0, 1], [1, 10]), ([0, 1, 2, 3, 10, 11], []), ([12, 3, 11, 0, 1, 2, 3, 10, 11], [3, 12]), ([0, 1, 2, 3, 4, 5, 10, 11, 12, 13], []), ([14, 5, 13, 0, 1, 2, 3, 4, 5, 10, 11, 12, 13], [5, 14]), ([0, 1, 2, 3, 4, 5, 6, 7, 10, 11, 12, 13, 14, 15], []), ([16, 7, 15, 0, 1, 2, 3, 4, 5, 6, 7, 10, 11, 12, 13, 14, 15], [7, 16]), ([0, 1, 2, 3, 4, 5, 6, 7, 8, 9, 10, 11, 12, 13, 14, 15, 16, 17], []), ([18, 9, 17, 0, 1, 2, 3, 4, 5, 6, 7, 8, 9, 10, 11, 12, 13, 14, 15, 16, 17], [9, 18])])
def cmd_Command_Clean.B5 : List Nat := [0, 1, 0, 4, 0, 16, 0, 64, 0, 256, 3, 1027, 3087, 7183, 15423, 31807, 64767, 130303, 262143, 524287]
theorem cmd_Command_Clean.tab5 : rtab .any (opsOf Tryd.f26 5) = cmd_Command_Clean.T5 := by kernel_rfl
theorem cmd_Command_Clean.bits5 : waitsOk cmd_Command_Clean.T5.2 cmd_Command_Clean.B5 = true := by kernel_rfl
def cmd_Command_Clean.T6 : Bool × List (List Nat × List Nat) := (true, [([], []), ([0], [0]), ([], []), ([2], [2]), ([0, 1], []), ([4, 1, 0, 1], [1, 4]), ([0, 1, 2, 3, 4, 5], []), ([6, 3, 5, 0, 1, 2, 3, 4, 5], [3, 6])])
def cmd_Command_Clean.B6 : List Nat := [0, 1, 0, 4, 3, 19, 63, 127]
theorem cmd_Command_Clean.tab6 : rtab .any (opsOf Tryd.f26 6) = cmd_Command_Clean.T6 := by kernel_rfl
theorem cmd_Command_Clean.bits6 : waitsOk cmd_Command_Clean.T6.2 cmd_Command_Clean.B6 = true := by kernel_rfl
def cmd_Command_Clean.T13 : Bool × List (List Nat × List Nat) := (true, [([], []), ([0], [0]), ([], []), ([2], [2]), ([0, 1], []), ([4, 1, 0, 1], [1, 4]), ([0, 1, 2, 3, 4, 5], []), ([6, 3, 5, 0, 1, 2, 3, 4, 5], [3, 6])])
def cmd_Command_Clean.B13 : List Nat := [0, 1, 0, 4, 3, 19, 63, 127]
theorem cmd_Command_Clean.tab13 : rtab .any (opsOf Tryd.f26 13) = cmd_Command_Clean.T13 := by kernel_rfl
theorem cmd_Command_Clean.bits13 : waitsOk cmd_Command_Clean.T13.2 cmd_Command_Clean.B13 = true := by kernel_rfl
def cmd_Command_Clean.T15 : Bool × List (List Nat × List Nat) := (true, [([], []), ([0], [0]), ([], []), ([2], [2]), ([], []), ([4], [4]), ([], []), ([6], [6]), ([0, 1], []), ([8, 1, 0, 1], [1, 8]), ([0, 1, 2, 3, 8, 9], []), ([10, 3, 9, 0, 1, 2, 3, 8, 9], [3, 10]), ([0, 1, 2, 3, 4, 5, 8, 9, 10, 11], []), ([12, 5, 11, 0, 1, 2, 3, 4, 5, 8, 9, 10, 11], [5, 12]), ([0, 1, 2, 3, 4, 5, 6, 7, 8, 9, 10, 11, 12, 13], []), ([14, 7, 13, 0, 1, 2, 3, 4, 5, 6, 7, 8, 9, 10, 11, 12, 13], [7, 14])])
def cmd_Command_Clean.B15 : List Nat := [0, 1, 0, 4, 0, 16, 0, 64, 3, 259, 783, 1807, 3903, 7999, 16383, 32767]
theorem cmd_Command_Clean.tab15 : rtab .any (opsOf Tryd.f26 15) = cmd_Command_Clean.T15 := by kernel_rfl
theorem cmd_Command_Clean.bits15 : waitsOk cmd_Command_Clean.T15.2 cmd_Command_Clean.B15 = true := by kernel_rfl
def cmd_Command_Clean.T17 : Bool × List (List Nat × List Nat) := (true, [([], []), ([0], [0]), ([], []), ([2], [2]), ([0, 1], []), ([4, 1, 0, 1], [1, 4]), ([0, 1, 2, 3, 4, 5], []), ([6, 3, 5, 0, 1, 2, 3, 4, 5], [3, 6])])
def cmd_Command_Clean.B17 : List Nat := [0, 1, 0, 4, 3, 19, 63, 127]
theorem cmd_Command_Clean.tab17 : rtab .any (opsOf Tryd.f26 17) = cmd_Command_Clean.T17 := by kernel_rfl
theorem cmd_Command_Clean.bits17 : waitsOk cmd_Command_Clean.T17.2 cmd_Command_Clean.B17 = true := by kernel_rfl
def cmd_Command_Clean.T19 : Bool × List (List Nat × List Nat) := (true, [([], []), ([0], [0]), ([], []), ([2], [2]), ([0, 1], []), ([4, 1, 0, 1], [1, 4]), ([0, 1, 2, 3, 4, 5], []), ([6, 3, 5, 0, 1, 2, 3, 4, 5], [3, 6])])
def cmd_Command_Clean.B19 : List Nat := [0, 1, 0, 4, 3, 19, 63, 127]
theorem cmd_Command_Clean.tab19 : rtab .any (opsOf Tryd.f26 19) = cmd_Command_Clean.T19 := by kernel_rfl
theorem cmd_Command_Clean.bits19 : waitsOk cmd_Command_Clean.T19.2 cmd_Command_Clean.B19 = true := by kernel_rfl
def cmd_Command_Clean.T25 : Bool × List (List Nat × List Nat) := (true, [([], []), ([0], [0]), ([], []), ([2], [2]), ([], []), ([4], [4]), ([0, 1], []), ([6, 1, 0, 1], [1, 6]), ([0, 1, 2, 3, 6, 7], []), ([8, 3, 7, 0, 1, 2, 3, 6, 7], [3, 8]), ([0, 1, 2, 3, 4, 5, 6, 7, 8, 9], []), ([10, 5, 9, 0, 1, 2, 3, 4, 5, 6, 7, 8, 9], [5, 10])])
def cmd_Command_Clean.B25 : List Nat := [0, 1, 0, 4, 0, 16, 3, 67, 207, 463, 1023, 2047]
theorem cmd_Command_Clean.tab25 : rtab .any (opsOf Tryd.f26 25) = cmd_Command_Clean.T25 := by kernel_rfl
theorem cmd_Command_Clean.bits25 : waitsOk cmd_Command_Clean.T25.2 cmd_Command_Clean.B25 = true := by kernel_rfl
set_option maxHeartbeats 8000000 in
set_option maxRecDepth 100000 in
theorem cmd_Command_Clean.calls (k : Nat) (a0_0 : Int) (a0_1 : Int) (a0_2 : Int) (a0_3 : Int) (a0_4 : Int) (a0_5 : Int) (a0_6 : Int) (a0_7 : Int) (a0_8 : Int) (a0_9 : Int) (a0_10 : Int) (a0_11 : Bool) (r1 : Int) (r2 : Int) (r3 : Int) (r4 : Int) (r5 : Int) (r6 : Int) (r7 : Int) (r8 : Int) (r9 : Int) (r10 : Int) (r11 : Int) (r12 : Bool) (w : World) (h : cmd_Command_Clean.f k a0_0 a0_1 a0_2 a0_3 a0_4 a0_5 a0_6 a0_7 a0_8 a0_9 a0_10 a0_11 = some (r1, r2, r3, r4, r5, r6, r7, r8, r9, r10, r11, r12)) :
  Calls Tryd.prog 26 #[.agg #[.int .i64 a0_0, .int .i64 a0_1, .int .i64 a0_2, .int .i64 a0_3, .int .i64 a0_4, .int .i64 a0_5, .int .i64 a0_6, .int .i64 a0_7, .int .i64 a0_8, .int .i64 a0_9, .int .i64 a0_10, .bool a0_11]] w fun e w' => e = .returned (.agg #[.int .i64 r1, .int .i64 r2, .int .i64 r3, .int .i64 r4, .int .i64 r5, .int .i64 r6, .int .i64 r7, .int .i64 r8, .int .i64 r9, .int .i64 r10, .int .i64 r11, .bool r12]) ∧ Below w.heap.size w w' := by
 have hu39 := Tryd.underlying39
 have HB := Aside0.mk (Below.refl w.heap.size w)
 have H : (if a0_0 = 1 then (some (a0_0, 0, a0_2, a0_3, a0_4, a0_5, a0_6, 0, 0, a0_9, 0, a0_11)) else (if a0_0 = 2 then (cmd_Command_Clean.j0 k a0_0 (a0_0 == 2) a0_0 a0_1 a0_2 a0_3 a0_4 a0_5 a0_6 a0_7 a0_8 a0_9 a0_10 a0_11 a0_0 0 0 0 0 0 0 0 0 0 0 false) else (if a0_0 = 3 then (cmd_Command_Clean.j0 k a0_0 (a0_0 == 3) a0_0 a0_1 a0_2 a0_3 a0_4 a0_5 a0_6 a0_7 a0_8 a0_9 a0_10 a0_11 a0_0 0 0 0 0 0 0 0 0 0 0 false) else (if a0_0 = 4 then (cmd_Command_Clean.j0 k a0_0 (a0_0 == 4) a0_0 a0_1 a0_2 a0_3 a0_4 a0_5 a0_6 a0_7 a0_8 a0_9 a0_10 a0_11 a0_0 0 0 0 0 0 0 0 0 0 0 false) else (cmd_Command_Clean.j0 k a0_0 (a0_0 == 12) a0_0 a0_1 a0_2 a0_3 a0_4 a0_5 a0_6 a0_7 a0_8 a0_9 a0_10 a0_11 a0_0 0 0 0 0 0 0 0 0 0 0 false))))) = some (r1, r2, r3, r4, r5, r6, r7, r8, r9, r10, r11, r12) := h
 clear h
 by_cases c2 : a0_0 = 1
 ·rw [if_pos c2] at H
  have c2b0 : (a0_0 == 1) = true := beq_iff_eq.mpr c2
  have c2b1 : (a0_0 != 1) = false := bne_eq_false_iff_eq.mpr c2
  clear c2
  simp only [Option.some.injEq, Prod.mk.injEq] at H
  obtain ⟨rfl, rfl, rfl, rfl, rfl, rfl, rfl, rfl, rfl, rfl, rfl, rfl⟩ := H
  go_enter Tryd.func26, Tryd.ntmps26
  try go_wp2_with (first | ((with_reducible refine gate_dst (N := 1) rfl ?_); refine box_event ?hg (N := 1) ?hd (cs := #[.int .i64 a0_0, .int .i64 a0_1, .int .i64 a0_2, .int .i64 a0_3, .int .i64 a0_4, .int .i64 a0_5, .int .i64 a0_6, .int .i64 a0_7, .int .i64 a0_8, .int .i64 a0_9, .int .i64 a0_10, .bool a0_11]) (t := 39) ?hr ?_; (case hd => rfl); (case hg => rfl); (case hr => first | (go_simp; done) | (go_simp; rfl)); intro gb156 hg w3 hbox hb; have n0_ := Aside0.mk (below_step (by repeat (first | (with_reducible first | exact HB.out | apply bA | apply bN | apply bD) | exact HB.out)) hb); have n1_ := Aside0.mk (hbox); have n2_ := Aside0.mk ((by rw [hg]; exact (below_size (by repeat (first | (with_reducible first | exact HB.out | apply bA | apply bN | apply bD) | exact HB.out))) : w.heap.size ≤ gb156)); have n3_ := Aside0.mk ((by rw [hg]; exact (below_size (by repeat (first | (with_reducible first | exact HB.out | apply bA | apply bN | apply bD) | exact HB.out))) : w.heap.size ≤ gb156)); clear HB; have HB := n0_; have BK156 := n1_; have GW156 := n2_; have GE156 := n3_; clear n0_ n1_ n2_ n3_; clear hb hbox hg) | ((with_reducible refine gate_dst (N := 2) rfl ?_); refine box_event ?hg (N := 2) ?hd (cs := #[.int .i64 0, .int .i64 0, .int .i64 0, .int .i64 0, .int .i64 0, .int .i64 0, .int .i64 0, .int .i64 0, .int .i64 0, .int .i64 0, .int .i64 0, .bool false]) (t := 39) ?hr ?_; (case hd => rfl); (case hg => rfl); (case hr => first | (go_simp; done) | (go_simp; rfl)); intro gb157 hg w4 hbox hb; have n0_ := Aside0.mk (blk_below (g := gb156) (o := .cells #[.int .i64 a0_0, .int .i64 a0_1, .int .i64 a0_2, .int .i64 a0_3, .int .i64 a0_4, .int .i64 a0_5, .int .i64 a0_6, .int .i64 a0_7, .int .i64 a0_8, .int .i64 a0_9, .int .i64 a0_10, .bool a0_11] 39 (0, 0)) (by (with_reducible repeat (first | apply kN | apply kD | apply kA)); exact BK156.out) hb); have n1_ := Aside0.mk (below_step (by repeat (first | (with_reducible first | exact HB.out | apply bA | apply bN | apply bD | refine bS ?_ GE156.out) | exact HB.out)) hb); have n2_ := Aside0.mk (hbox); have n3_ := Aside0.mk ((by rw [hg]; exact (below_size (by repeat (first | (with_reducible first | exact HB.out | apply bA | apply bN | apply bD | refine bS ?_ GE156.out) | exact HB.out))) : w.heap.size ≤ gb157)); have n4_ := Aside0.mk ((by rw [hg]; exact (below_size (by repeat (first | (with_reducible first | exact HB.out | apply bA | apply bN | apply bD | refine bS ?_ GE156.out) | exact HB.out))) : w.heap.size ≤ gb157)); have n5_ := Aside0.mk ((by rw [hg]; exact Nat.ne_of_lt (blk_lt (g := gb156) (o := .cells #[.int .i64 a0_0, .int .i64 a0_1, .int .i64 a0_2, .int .i64 a0_3, .int .i64 a0_4, .int .i64 a0_5, .int .i64 a0_6, .int .i64 a0_7, .int .i64 a0_8, .int .i64 a0_9, .int .i64 a0_10, .bool a0_11] 39 (0, 0)) (by (with_reducible repeat (first | apply kN | apply kD | apply kA)); exact BK156.out)) : gb156 ≠ gb157)); have n6_ := Aside0.mk ((by rw [hg]; exact Nat.ne_of_gt (blk_lt (g := gb156) (o := .cells #[.int .i64 a0_0, .int .i64 a0_1, .int .i64 a0_2, .int .i64 a0_3, .int .i64 a0_4, .int .i64 a0_5, .int .i64 a0_6, .int .i64 a0_7, .int .i64 a0_8, .int .i64 a0_9, .int .i64 a0_10, .bool a0_11] 39 (0, 0)) (by (with_reducible repeat (first | apply kN | apply kD | apply kA)); exact BK156.out)) : gb157 ≠ gb156)); clear BK156; clear HB; have BK156 := n0_; have HB := n1_; have BK157 := n2_; have GW157 := n3_; have GE157 := n4_; have NB156_157 := n5_; have NB157_156 := n6_; clear n0_ n1_ n2_ n3_ n4_ n5_ n6_; clear hb hbox hg; have hnb5 := NB156_157.out; have hnc5 := NB157_156.out; have hcz6_0 : w4.cell? ⟨gb156, 0, none⟩ = some (.int .i64 a0_0) := (blk_cell BK156.out 0).trans rfl; have hcz6_1 : w4.cell? ⟨gb156, 1, none⟩ = some (.int .i64 a0_1) := (blk_cell BK156.out 1).trans rfl; have hcz6_2 : w4.cell? ⟨gb156, 2, none⟩ = some (.int .i64 a0_2) := (blk_cell BK156.out 2).trans rfl; have hcz6_3 : w4.cell? ⟨gb156, 3, none⟩ = some (.int .i64 a0_3) := (blk_cell BK156.out 3).trans rfl; have hcz6_4 : w4.cell? ⟨gb156, 4, none⟩ = some (.int .i64 a0_4) := (blk_cell BK156.out 4).trans rfl; have hcz6_5 : w4.cell? ⟨gb156, 5, none⟩ = some (.int .i64 a0_5) := (blk_cell BK156.out 5).trans rfl; have hcz6_6 : w4.cell? ⟨gb156, 6, none⟩ = some (.int .i64 a0_6) := (blk_cell BK156.out 6).trans rfl; have hcz6_7 : w4.cell? ⟨gb156, 7, none⟩ = some (.int .i64 a0_7) := (blk_cell BK156.out 7).trans rfl; have hcz6_8 : w4.cell? ⟨gb156, 8, none⟩ = some (.int .i64 a0_8) := (blk_cell BK156.out 8).trans rfl; have hcz6_9 : w4.cell? ⟨gb156, 9, none⟩ = some (.int .i64 a0_9) := (blk_cell BK156.out 9).trans rfl; have hcz6_10 : w4.cell? ⟨gb156, 10, none⟩ = some (.int .i64 a0_10) := (blk_cell BK156.out 10).trans rfl; have hcz6_11 : w4.cell? ⟨gb156, 11, none⟩ = some (.bool a0_11) := (blk_cell BK156.out 11).trans rfl; have hfz6_0 := blk_frozen BK156.out 0; have hfz6_1 := blk_frozen BK156.out 1; have hfz6_2 := blk_frozen BK156.out 2; have hfz6_3 := blk_frozen BK156.out 3; have hfz6_4 := blk_frozen BK156.out 4; have hfz6_5 := blk_frozen BK156.out 5; have hfz6_6 := blk_frozen BK156.out 6; have hfz6_7 := blk_frozen BK156.out 7; have hfz6_8 := blk_frozen BK156.out 8; have hfz6_9 := blk_frozen BK156.out 9; have hfz6_10 := blk_frozen BK156.out 10; have hfz6_11 := blk_frozen BK156.out 11) | ((with_reducible refine gate_dst (N := 3) rfl ?_); refine box_event ?hg (N := 3) ?hd (cs := #[.int .i64 0, .int .i64 0, .int .i64 0, .int .i64 0, .int .i64 0, .int .i64 0, .int .i64 0, .int .i64 0, .int .i64 0, .int .i64 0, .int .i64 0, .bool false]) (t := 39) ?hr ?_; (case hd => rfl); (case hg => rfl); (case hr => first | (go_simp; done) | (go_simp; rfl)); intro gb158 hg w7 hbox hb; have n0_ := Aside0.mk (blk_below (g := gb156) (o := .cells #[.int .i64 a0_0, .int .i64 a0_1, .int .i64 a0_2, .int .i64 a0_3, .int .i64 a0_4, .int .i64 a0_5, .int .i64 a0_6, .int .i64 a0_7, .int .i64 a0_8, .int .i64 a0_9, .int .i64 a0_10, .bool a0_11] 39 (0, 0)) (by (with_reducible repeat (first | apply kN | apply kD | apply kA)); exact BK156.out) hb); have n1_ := Aside0.mk (blk_below (g := gb157) (o := .cells #[.int .i64 0, .int .i64 0, .int .i64 0, .int .i64 0, .int .i64 0, .int .i64 0, .int .i64 0, .int .i64 0, .int .i64 0, .int .i64 0, .int .i64 0, .bool false] 39 (0, 0)) (by (with_reducible repeat (first | apply kN | apply kD | apply kA)); exact BK157.out) hb); have n2_ := Aside0.mk (below_step (by repeat (first | (with_reducible first | exact HB.out | apply bA | apply bN | apply bD | refine bS ?_ GE156.out | refine bS ?_ GE157.out) | exact HB.out)) hb); have n3_ := Aside0.mk (hbox); have n4_ := Aside0.mk ((by rw [hg]; exact (below_size (by repeat (first | (with_reducible first | exact HB.out | apply bA | apply bN | apply bD | refine bS ?_ GE156.out | refine bS ?_ GE157.out) | exact HB.out))) : w.heap.size ≤ gb158)); have n5_ := Aside0.mk ((by rw [hg]; exact (below_size (by repeat (first | (with_reducible first | exact HB.out | apply bA | apply bN | apply bD | refine bS ?_ GE156.out | refine bS ?_ GE157.out) | exact HB.out))) : w.heap.size ≤ gb158)); have n6_ := Aside0.mk ((by rw [hg]; exact Nat.ne_of_lt (blk_lt (g := gb156) (o := .cells #[.int .i64 a0_0, .int .i64 a0_1, .int .i64 a0_2, .int .i64 a0_3, .int .i64 a0_4, .int .i64 a0_5, .int .i64 a0_6, .int .i64 a0_7, .int .i64 a0_8, .int .i64 a0_9, .int .i64 a0_10, .bool a0_11] 39 (0, 0)) (by (with_reducible repeat (first | apply kN | apply kD | apply kA)); exact BK156.out)) : gb156 ≠ gb158)); have n7_ := Aside0.mk ((by rw [hg]; exact Nat.ne_of_gt (blk_lt (g := gb156) (o := .cells #[.int .i64 a0_0, .int .i64 a0_1, .int .i64 a0_2, .int .i64 a0_3, .int .i64 a0_4, .int .i64 a0_5, .int .i64 a0_6, .int .i64 a0_7, .int .i64 a0_8, .int .i64 a0_9, .int .i64 a0_10, .bool a0_11] 39 (0, 0)) (by (with_reducible repeat (first | apply kN | apply kD | apply kA)); exact BK156.out)) : gb158 ≠ gb156)); have n8_ := Aside0.mk ((by rw [hg]; exact Nat.ne_of_lt (blk_lt (g := gb157) (o := .cells #[.int .i64 0, .int .i64 0, .int .i64 0, .int .i64 0, .int .i64 0, .int .i64 0, .int .i64 0, .int .i64 0, .int .i64 0, .int .i64 0, .int .i64 0, .bool false] 39 (0, 0)) (by (with_reducible repeat (first | apply kN | apply kD | apply kA)); exact BK157.out)) : gb157 ≠ gb158)); have n9_ := Aside0.mk ((by rw [hg]; exact Nat.ne_of_gt (blk_lt (g := gb157) (o := .cells #[.int .i64 0, .int .i64 0, .int .i64 0, .int .i64 0, .int .i64 0, .int .i64 0, .int .i64 0, .int .i64 0, .int .i64 0, .int .i64 0, .int .i64 0, .bool false] 39 (0, 0)) (by (with_reducible repeat (first | apply kN | apply kD | apply kA)); exact BK157.out)) : gb158 ≠ gb157)); clear BK156; clear BK157; clear HB; have BK156 := n0_; have BK157 := n1_; have HB := n2_; have BK158 := n3_; have GW158 := n4_; have GE158 := n5_; have NB156_158 := n6_; have NB158_156 := n7_; have NB157_158 := n8_; have NB158_157 := n9_; clear n0_ n1_ n2_ n3_ n4_ n5_ n6_ n7_ n8_ n9_; clear hb hbox hg; have hnb8 := NB158_156.out; have hnc8 := NB156_158.out; have hnb9 := NB158_157.out; have hnc9 := NB157_158.out; have hcz10_0 : w7.cell? ⟨gb158, 0, none⟩ = some (.int .i64 0) := (blk_cell BK158.out 0).trans rfl; have hcz10_1 : w7.cell? ⟨gb158, 1, none⟩ = some (.int .i64 0) := (blk_cell BK158.out 1).trans rfl; have hcz10_2 : w7.cell? ⟨gb158, 2, none⟩ = some (.int .i64 0) := (blk_cell BK158.out 2).trans rfl; have hcz10_3 : w7.cell? ⟨gb158, 3, none⟩ = some (.int .i64 0) := (blk_cell BK158.out 3).trans rfl; have hcz10_4 : w7.cell? ⟨gb158, 4, none⟩ = some (.int .i64 0) := (blk_cell BK158.out 4).trans rfl; have hcz10_5 : w7.cell? ⟨gb158, 5, none⟩ = some (.int .i64 0) := (blk_cell BK158.out 5).trans rfl; have hcz10_6 : w7.cell? ⟨gb158, 6, none⟩ = some (.int .i64 0) := (blk_cell BK158.out 6).trans rfl; have hcz10_7 : w7.cell? ⟨gb158, 7, none⟩ = some (.int .i64 0) := (blk_cell BK158.out 7).trans rfl; have hcz10_8 : w7.cell? ⟨gb158, 8, none⟩ = some (.int .i64 0) := (blk_cell BK158.out 8).trans rfl; have hcz10_9 : w7.cell? ⟨gb158, 9, none⟩ = some (.int .i64 0) := (blk_cell BK158.out 9).trans rfl; have hcz10_10 : w7.cell? ⟨gb158, 10, none⟩ = some (.int .i64 0) := (blk_cell BK158.out 10).trans rfl; have hcz10_11 : w7.cell? ⟨gb158, 11, none⟩ = some (.bool false) := (blk_cell BK158.out 11).trans rfl; have hfz10_0 := blk_frozen BK158.out 0; have hfz10_1 := blk_frozen BK158.out 1; have hfz10_2 := blk_frozen BK158.out 2; have hfz10_3 := blk_frozen BK158.out 3; have hfz10_4 := blk_frozen BK158.out 4; have hfz10_5 := blk_frozen BK158.out 5; have hfz10_6 := blk_frozen BK158.out 6; have hfz10_7 := blk_frozen BK158.out 7; have hfz10_8 := blk_frozen BK158.out 8; have hfz10_9 := blk_frozen BK158.out 9; have hfz10_10 := blk_frozen BK158.out 10; have hfz10_11 := blk_frozen BK158.out 11; have hcz11_0 : w7.cell? ⟨gb156, 0, none⟩ = some (.int .i64 a0_0) := (blk_cell BK156.out 0).trans rfl; have hcz11_1 : w7.cell? ⟨gb156, 1, none⟩ = some (.int .i64 a0_1) := (blk_cell BK156.out 1).trans rfl; have hcz11_2 : w7.cell? ⟨gb156, 2, none⟩ = some (.int .i64 a0_2) := (blk_cell BK156.out 2).trans rfl; have hcz11_3 : w7.cell? ⟨gb156, 3, none⟩ = some (.int .i64 a0_3) := (blk_cell BK156.out 3).trans rfl; have hcz11_4 : w7.cell? ⟨gb156, 4, none⟩ = some (.int .i64 a0_4) := (blk_cell BK156.out 4).trans rfl; have hcz11_5 : w7.cell? ⟨gb156, 5, none⟩ = some (.int .i64 a0_5) := (blk_cell BK156.out 5).trans rfl; have hcz11_6 : w7.cell? ⟨gb156, 6, none⟩ = some (.int .i64 a0_6) := (blk_cell BK156.out 6).trans rfl; have hcz11_7 : w7.cell? ⟨gb156, 7, none⟩ = some (.int .i64 a0_7) := (blk_cell BK156.out 7).trans rfl; have hcz11_8 : w7.cell? ⟨gb156, 8, none⟩ = some (.int .i64 a0_8) := (blk_cell BK156.out 8).trans rfl; have hcz11_9 : w7.cell? ⟨gb156, 9, none⟩ = some (.int .i64 a0_9) := (blk_cell BK156.out 9).trans rfl; have hcz11_10 : w7.cell? ⟨gb156, 10, none⟩ = some (.int .i64 a0_10) := (blk_cell BK156.out 10).trans rfl; have hcz11_11 : w7.cell? ⟨gb156, 11, none⟩ = some (.bool a0_11) := (blk_cell BK156.out 11).trans rfl; have hfz11_0 := blk_frozen BK156.out 0; have hfz11_1 := blk_frozen BK156.out 1; have hfz11_2 := blk_frozen BK156.out 2; have hfz11_3 := blk_frozen BK156.out 3; have hfz11_4 := blk_frozen BK156.out 4; have hfz11_5 := blk_frozen BK156.out 5; have hfz11_6 := blk_frozen BK156.out 6; have hfz11_7 := blk_frozen BK156.out 7; have hfz11_8 := blk_frozen BK156.out 8; have hfz11_9 := blk_frozen BK156.out 9; have hfz11_10 := blk_frozen BK156.out 10; have hfz11_11 := blk_frozen BK156.out 11))
  have n0_ : Aside0 (((((((((((((w7.setCell ⟨gb158, 0, none⟩ (.int .i64 a0_0)).setCell ⟨gb158, 1, none⟩ (.int .i64 0)).setCell ⟨gb158, 2, none⟩ (.int .i64 0)).setCell ⟨gb158, 3, none⟩ (.int .i64 0)).setCell ⟨gb158, 4, none⟩ (.int .i64 0)).setCell ⟨gb158, 5, none⟩ (.int .i64 0)).setCell ⟨gb158, 6, none⟩ (.int .i64 0)).setCell ⟨gb158, 7, none⟩ (.int .i64 0)).setCell ⟨gb158, 8, none⟩ (.int .i64 0)).setCell ⟨gb158, 9, none⟩ (.int .i64 0)).setCell ⟨gb158, 10, none⟩ (.int .i64 0)).setCell ⟨gb158, 11, none⟩ (.bool false)).heap[gb156]? = some (.cells #[.int .i64 a0_0, .int .i64 a0_1, .int .i64 a0_2, .int .i64 a0_3, .int .i64 a0_4, .int .i64 a0_5, .int .i64 a0_6, .int .i64 a0_7, .int .i64 a0_8, .int .i64 a0_9, .int .i64 a0_10, .bool a0_11] 39 (0, 0))) := ⟨by (with_reducible repeat (first | apply kN | apply kD | apply kA)); refine blk_far ?_ NB156_158.out _; (with_reducible repeat (first | apply kN | apply kD | apply kA)); refine blk_far ?_ NB156_158.out _; (with_reducible repeat (first | apply kN | apply kD | apply kA)); refine blk_far ?_ NB156_158.out _; (with_reducible repeat (first | apply kN | apply kD | apply kA)); refine blk_far ?_ NB156_158.out _; (with_reducible repeat (first | apply kN | apply kD | apply kA)); refine blk_far ?_ NB156_158.out _; (with_reducible repeat (first | apply kN | apply kD | apply kA)); refine blk_far ?_ NB156_158.out _; (with_reducible repeat (first | apply kN | apply kD | apply kA)); refine blk_far ?_ NB156_158.out _; (with_reducible repeat (first | apply kN | apply kD | apply kA)); refine blk_far ?_ NB156_158.out _; (with_reducible repeat (first | apply kN | apply kD | apply kA)); refine blk_far ?_ NB156_158.out _; (with_reducible repeat (first | apply kN | apply kD | apply kA)); refine blk_far ?_ NB156_158.out _; (with_reducible repeat (first | apply kN | apply kD | apply kA)); refine blk_far ?_ NB156_158.out _; (with_reducible repeat (first | apply kN | apply kD | apply kA)); refine blk_far ?_ NB156_158.out _; (with_reducible repeat (first | apply kN | apply kD | apply kA)); exact BK156.out⟩
  have n1_ : Aside0 (((((((((((((w7.setCell ⟨gb158, 0, none⟩ (.int .i64 a0_0)).setCell ⟨gb158, 1, none⟩ (.int .i64 0)).setCell ⟨gb158, 2, none⟩ (.int .i64 0)).setCell ⟨gb158, 3, none⟩ (.int .i64 0)).setCell ⟨gb158, 4, none⟩ (.int .i64 0)).setCell ⟨gb158, 5, none⟩ (.int .i64 0)).setCell ⟨gb158, 6, none⟩ (.int .i64 0)).setCell ⟨gb158, 7, none⟩ (.int .i64 0)).setCell ⟨gb158, 8, none⟩ (.int .i64 0)).setCell ⟨gb158, 9, none⟩ (.int .i64 0)).setCell ⟨gb158, 10, none⟩ (.int .i64 0)).setCell ⟨gb158, 11, none⟩ (.bool false)).heap[gb157]? = some (.cells #[.int .i64 0, .int .i64 0, .int .i64 0, .int .i64 0, .int .i64 0, .int .i64 0, .int .i64 0, .int .i64 0, .int .i64 0, .int .i64 0, .int .i64 0, .bool false] 39 (0, 0))) := ⟨by (with_reducible repeat (first | apply kN | apply kD | apply kA)); refine blk_far ?_ NB157_158.out _; (with_reducible repeat (first | apply kN | apply kD | apply kA)); refine blk_far ?_ NB157_158.out _; (with_reducible repeat (first | apply kN | apply kD | apply kA)); refine blk_far ?_ NB157_158.out _; (with_reducible repeat (first | apply kN | apply kD | apply kA)); refine blk_far ?_ NB157_158.out _; (with_reducible repeat (first | apply kN | apply kD | apply kA)); refine blk_far ?_ NB157_158.out _; (with_reducible repeat (first | apply kN | apply kD | apply kA)); refine blk_far ?_ NB157_158.out _; (with_reducible repeat (first | apply kN | apply kD | apply kA)); refine blk_far ?_ NB157_158.out _; (with_reducible repeat (first | apply kN | apply kD | apply kA)); refine blk_far ?_ NB157_158.out _; (with_reducible repeat (first | apply kN | apply kD | apply kA)); refine blk_far ?_ NB157_158.out _; (with_reducible repeat (first | apply kN | apply kD | apply kA)); refine blk_far ?_ NB157_158.out _; (with_reducible repeat (first | apply kN | apply kD | apply kA)); refine blk_far ?_ NB157_158.out _; (with_reducible repeat (first | apply kN | apply kD | apply kA)); refine blk_far ?_ NB157_158.out _; (with_reducible repeat (first | apply kN | apply kD | apply kA)); exact BK157.out⟩
  have n2_ : Aside0 (((((((((((((w7.setCell ⟨gb158, 0, none⟩ (.int .i64 a0_0)).setCell ⟨gb158, 1, none⟩ (.int .i64 0)).setCell ⟨gb158, 2, none⟩ (.int .i64 0)).setCell ⟨gb158, 3, none⟩ (.int .i64 0)).setCell ⟨gb158, 4, none⟩ (.int .i64 0)).setCell ⟨gb158, 5, none⟩ (.int .i64 0)).setCell ⟨gb158, 6, none⟩ (.int .i64 0)).setCell ⟨gb158, 7, none⟩ (.int .i64 0)).setCell ⟨gb158, 8, none⟩ (.int .i64 0)).setCell ⟨gb158, 9, none⟩ (.int .i64 0)).setCell ⟨gb158, 10, none⟩ (.int .i64 0)).setCell ⟨gb158, 11, none⟩ (.bool false)).heap[gb158]? = some (.cells #[.int .i64 a0_0, .int .i64 0, .int .i64 0, .int .i64 0, .int .i64 0, .int .i64 0, .int .i64 0, .int .i64 0, .int .i64 0, .int .i64 0, .int .i64 0, .bool false] 39 (0, 0))) := ⟨by (with_reducible repeat (first | apply kN | apply kD | apply kA)); refine blk_put (cs := #[.int .i64 a0_0, .int .i64 0, .int .i64 0, .int .i64 0, .int .i64 0, .int .i64 0, .int .i64 0, .int .i64 0, .int .i64 0, .int .i64 0, .int .i64 0, .bool false]) ?_ 11 _ rfl; (with_reducible repeat (first | apply kN | apply kD | apply kA)); refine blk_put (cs := #[.int .i64 a0_0, .int .i64 0, .int .i64 0, .int .i64 0, .int .i64 0, .int .i64 0, .int .i64 0, .int .i64 0, .int .i64 0, .int .i64 0, .int .i64 0, .bool false]) ?_ 10 _ rfl; (with_reducible repeat (first | apply kN | apply kD | apply kA)); refine blk_put (cs := #[.int .i64 a0_0, .int .i64 0, .int .i64 0, .int .i64 0, .int .i64 0, .int .i64 0, .int .i64 0, .int .i64 0, .int .i64 0, .int .i64 0, .int .i64 0, .bool false]) ?_ 9 _ rfl; (with_reducible repeat (first | apply kN | apply kD | apply kA)); refine blk_put (cs := #[.int .i64 a0_0, .int .i64 0, .int .i64 0, .int .i64 0, .int .i64 0, .int .i64 0, .int .i64 0, .int .i64 0, .int .i64 0, .int .i64 0, .int .i64 0, .bool false]) ?_ 8 _ rfl; (with_reducible repeat (first | apply kN | apply kD | apply kA)); refine blk_put (cs := #[.int .i64 a0_0, .int .i64 0, .int .i64 0, .int .i64 0, .int .i64 0, .int .i64 0, .int .i64 0, .int .i64 0, .int .i64 0, .int .i64 0, .int .i64 0, .bool false]) ?_ 7 _ rfl; (with_reducible repeat (first | apply kN | apply kD | apply kA)); refine blk_put (cs := #[.int .i64 a0_0, .int .i64 0, .int .i64 0, .int .i64 0, .int .i64 0, .int .i64 0, .int .i64 0, .int .i64 0, .int .i64 0, .int .i64 0, .int .i64 0, .bool false]) ?_ 6 _ rfl; (with_reducible repeat (first | apply kN | apply kD | apply kA)); refine blk_put (cs := #[.int .i64 a0_0, .int .i64 0, .int .i64 0, .int .i64 0, .int .i64 0, .int .i64 0, .int .i64 0, .int .i64 0, .int .i64 0, .int .i64 0, .int .i64 0, .bool false]) ?_ 5 _ rfl; (with_reducible repeat (first | apply kN | apply kD | apply kA)); refine blk_put (cs := #[.int .i64 a0_0, .int .i64 0, .int .i64 0, .int .i64 0, .int .i64 0, .int .i64 0, .int .i64 0, .int .i64 0, .int .i64 0, .int .i64 0, .int .i64 0, .bool false]) ?_ 4 _ rfl; (with_reducible repeat (first | apply kN | apply kD | apply kA)); refine blk_put (cs := #[.int .i64 a0_0, .int .i64 0, .int .i64 0, .int .i64 0, .int .i64 0, .int .i64 0, .int .i64 0, .int .i64 0, .int .i64 0, .int .i64 0, .int .i64 0, .bool false]) ?_ 3 _ rfl; (with_reducible repeat (first | apply kN | apply kD | apply kA)); refine blk_put (cs := #[.int .i64 a0_0, .int .i64 0, .int .i64 0, .int .i64 0, .int .i64 0, .int .i64 0, .int .i64 0, .int .i64 0, .int .i64 0, .int .i64 0, .int .i64 0, .bool false]) ?_ 2 _ rfl; (with_reducible repeat (first | apply kN | apply kD | apply kA)); refine blk_put (cs := #[.int .i64 a0_0, .int .i64 0, .int .i64 0, .int .i64 0, .int .i64 0, .int .i64 0, .int .i64 0, .int .i64 0, .int .i64 0, .int .i64 0, .int .i64 0, .bool false]) ?_ 1 _ rfl; (with_reducible repeat (first | apply kN | apply kD | apply kA)); refine blk_put (cs := #[.int .i64 0, .int .i64 0, .int .i64 0, .int .i64 0, .int .i64 0, .int .i64 0, .int .i64 0, .int .i64 0, .int .i64 0, .int .i64 0, .int .i64 0, .bool false]) ?_ 0 _ rfl; (with_reducible repeat (first | apply kN | apply kD | apply kA)); exact BK158.out⟩
  have n3_ : Aside0 (Below w.heap.size w ((((((((((((w7.setCell ⟨gb158, 0, none⟩ (.int .i64 a0_0)).setCell ⟨gb158, 1, none⟩ (.int .i64 0)).setCell ⟨gb158, 2, none⟩ (.int .i64 0)).setCell ⟨gb158, 3, none⟩ (.int .i64 0)).setCell ⟨gb158, 4, none⟩ (.int .i64 0)).setCell ⟨gb158, 5, none⟩ (.int .i64 0)).setCell ⟨gb158, 6, none⟩ (.int .i64 0)).setCell ⟨gb158, 7, none⟩ (.int .i64 0)).setCell ⟨gb158, 8, none⟩ (.int .i64 0)).setCell ⟨gb158, 9, none⟩ (.int .i64 0)).setCell ⟨gb158, 10, none⟩ (.int .i64 0)).setCell ⟨gb158, 11, none⟩ (.bool false))) := ⟨by repeat (first | (with_reducible first | exact HB.out | apply bA | apply bN | apply bD | refine bS ?_ GE156.out | refine bS ?_ GE157.out | refine bS ?_ GE158.out) | exact HB.out)⟩
  (try clear BK156)
  (try clear BK157)
  (try clear BK158)
  (try clear HB)
  generalize ((((((((((((w7.setCell ⟨gb158, 0, none⟩ (.int .i64 a0_0)).setCell ⟨gb158, 1, none⟩ (.int .i64 0)).setCell ⟨gb158, 2, none⟩ (.int .i64 0)).setCell ⟨gb158, 3, none⟩ (.int .i64 0)).setCell ⟨gb158, 4, none⟩ (.int .i64 0)).setCell ⟨gb158, 5, none⟩ (.int .i64 0)).setCell ⟨gb158, 6, none⟩ (.int .i64 0)).setCell ⟨gb158, 7, none⟩ (.int .i64 0)).setCell ⟨gb158, 8, none⟩ (.int .i64 0)).setCell ⟨gb158, 9, none⟩ (.int .i64 0)).setCell ⟨gb158, 10, none⟩ (.int .i64 0)).setCell ⟨gb158, 11, none⟩ (.bool false)) = w12 at n0_ n1_ n2_ n3_ ⊢
  have BK156 := n0_; have BK157 := n1_; have BK158 := n2_; have HB := n3_
  clear n0_ n1_ n2_ n3_
  have n0_ := Aside0.mk (blk_drew BK156.out)
  have n1_ := Aside0.mk (blk_drew BK157.out)
  have n2_ := Aside0.mk (blk_drew BK158.out)
  have n3_ := Aside0.mk (below_drew1 HB.out)
  clear BK156 BK157 BK158 HB
  have BK156 := n0_; have BK157 := n1_; have BK158 := n2_; have HB := n3_
  clear n0_ n1_ n2_ n3_
  refine start_ (n := 20) (S := fun w' => w'.cell? ⟨gb156, 0, none⟩ = some (.int .i64 a0_0) ∧ w'.cell? ⟨gb156, 1, none⟩ = some (.int .i64 a0_1) ∧ w'.cell? ⟨gb156, 2, none⟩ = some (.int .i64 a0_2) ∧ w'.cell? ⟨gb156, 3, none⟩ = some (.int .i64 a0_3) ∧ w'.cell? ⟨gb156, 4, none⟩ = some (.int .i64 a0_4) ∧ w'.cell? ⟨gb156, 5, none⟩ = some (.int .i64 a0_5) ∧ w'.cell? ⟨gb156, 6, none⟩ = some (.int .i64 a0_6) ∧ w'.cell? ⟨gb156, 7, none⟩ = some (.int .i64 a0_7) ∧ w'.cell? ⟨gb156, 8, none⟩ = some (.int .i64 a0_8) ∧ w'.cell? ⟨gb156, 9, none⟩ = some (.int .i64 a0_9) ∧ w'.cell? ⟨gb156, 10, none⟩ = some (.int .i64 a0_10) ∧ w'.cell? ⟨gb156, 11, none⟩ = some (.bool a0_11)) (ds := []) #[false, false, false, false, false, false, false, false, false, false, false, false, false, false, false, false, false, false, false, false] (by kernel_rfl) rfl rfl ⟨(blk_cell BK156.out 0).trans rfl, (blk_cell BK156.out 1).trans rfl, (blk_cell BK156.out 2).trans rfl, (blk_cell BK156.out 3).trans rfl, (blk_cell BK156.out 4).trans rfl, (blk_cell BK156.out 5).trans rfl, (blk_cell BK156.out 6).trans rfl, (blk_cell BK156.out 7).trans rfl, (blk_cell BK156.out 8).trans rfl, (blk_cell BK156.out 9).trans rfl, (blk_cell BK156.out 10).trans rfl, (blk_cell BK156.out 11).trans rfl⟩ (fun hHeld => ?_); refine with_tabW cmd_Command_Clean.tab5 cmd_Command_Clean.bits5 (fun HT_ HW_ => ?_)
  generalize w12.drew = w13 at BK156 BK157 BK158 HB hHeld ⊢
  refine pu 0 (some 12) ?_ HT_ rfl rfl (by kernel_rfl) (fun _ _ _ h => h) (Or.inl ⟨by rfl, ?_⟩) ?_ ?_ ?_
  rotate_left
  ·intro w'; go_simp; with_reducible rfl
  rotate_left
  ·simp only [Act.put, sA, sB, sC, i64_w]; rfl
  refine pu 2 (some 14) ?_ HT_ rfl rfl (by kernel_rfl) (fun _ _ _ h => h) (Or.inl ⟨by rfl, ?_⟩) ?_ ?_ ?_
  rotate_left
  ·intro w'; go_simp; with_reducible rfl
  rotate_left
  ·simp only [Act.put, sA, sB, sC, i64_w]; rfl
  refine pu 4 (some 16) ?_ HT_ rfl rfl (by kernel_rfl) (fun _ _ _ h => h) (Or.inl ⟨by rfl, ?_⟩) ?_ ?_ ?_
  rotate_left
  ·intro w'; go_simp; with_reducible rfl
  rotate_left
  ·simp only [Act.put, sA, sB, sC, i64_w]; rfl
  refine pu 6 (some 18) ?_ HT_ rfl rfl (by kernel_rfl) (fun _ _ _ h => h) (Or.inl ⟨by rfl, ?_⟩) ?_ ?_ ?_
  rotate_left
  ·intro w'; go_simp; with_reducible rfl
  rotate_left
  ·simp only [Act.put, sA, sB, sC, i64_w]; rfl
  refine pu 8 (some 20) ?_ HT_ rfl rfl (by kernel_rfl) (fun _ _ _ h => h) (Or.inl ⟨by rfl, ?_⟩) ?_ ?_ ?_
  rotate_left
  ·intro w'; go_simp; with_reducible rfl
  rotate_left
  ·simp only [Act.put, sA, sB, sC, i64_w]; rfl
  refine tk 1 (some 13) ?_ HT_ HW_ rfl rfl (by kernel_rfl) (fun _ _ _ h => h) (Or.inl ⟨by rfl, ?_⟩) hHeld ?_ ?_ ?_
  rotate_left
  ·rintro w' ⟨s0, s1, s2, s3, s4, s5, s6, s7, s8, s9, s10, s11⟩; go_simp; with_reducible rfl
  rotate_left
  ·simp only [Act.put, sA, sB, sC, i64_w]; rfl
  refine pu 10 (some 22) ?_ HT_ rfl rfl (by kernel_rfl) (fun _ _ _ h => h) (Or.inl ⟨by rfl, ?_⟩) ?_ ?_ ?_
  rotate_left
  ·intro w'; go_simp; with_reducible rfl
  rotate_left
  ·simp only [Act.put, sA, sB, sC, i64_w]; rfl
  refine tk 3 (some 15) ?_ HT_ HW_ rfl rfl (by kernel_rfl) (fun _ _ _ h => h) (Or.inl ⟨by rfl, ?_⟩) hHeld ?_ ?_ ?_
  rotate_left
  ·rintro w' ⟨s0, s1, s2, s3, s4, s5, s6, s7, s8, s9, s10, s11⟩; go_simp; with_reducible rfl
  rotate_left
  ·simp only [Act.put, sA, sB, sC, i64_w]; rfl
  refine tk 5 (some 17) ?_ HT_ HW_ rfl rfl (by kernel_rfl) (fun _ _ _ h => h) (Or.inl ⟨by rfl, ?_⟩) hHeld ?_ ?_ ?_
  rotate_left
  ·rintro w' ⟨s0, s1, s2, s3, s4, s5, s6, s7, s8, s9, s10, s11⟩; go_simp; with_reducible rfl
  rotate_left
  ·simp only [Act.put, sA, sB, sC, i64_w]; rfl
  refine tk 7 (some 19) ?_ HT_ HW_ rfl rfl (by kernel_rfl) (fun _ _ _ h => h) (Or.inl ⟨by rfl, ?_⟩) hHeld ?_ ?_ ?_
  rotate_left
  ·rintro w' ⟨s0, s1, s2, s3, s4, s5, s6, s7, s8, s9, s10, s11⟩; go_simp; with_reducible rfl
  rotate_left
  ·simp only [Act.put, sA, sB, sC, i64_w]; rfl
  refine tk 9 (some 21) ?_ HT_ HW_ rfl rfl (by kernel_rfl) (fun _ _ _ h => h) (Or.inl ⟨by rfl, ?_⟩) hHeld ?_ ?_ ?_
  rotate_left
  ·rintro w' ⟨s0, s1, s2, s3, s4, s5, s6, s7, s8, s9, s10, s11⟩; go_simp; with_reducible rfl
  rotate_left
  ·simp only [Act.put, sA, sB, sC, i64_w]; rfl
  refine on 11 none HT_ rfl rfl (by kernel_rfl) (by decide) (fun K hK => ?_)
  have hs14 : w13.cell? ⟨gb158, 2, none⟩ = some (.int .i64 0) := (blk_cell BK158.out 2).trans rfl
  have hfs14 := blk_frozen BK158.out 2
  have hns14_0 := NB156_158.out
  have hns14_1 := NB157_158.out
  have hms14_0 := NB158_156.out
  have hms14_1 := NB158_157.out
  refine skip_ (w1 := ?_) (by rfl) rfl ?_ ?_
  rotate_left
  ·go_simp
   rfl
  refine hK.out _ _ ⟨((cell_far (p := ⟨gb158, _, none⟩) NB156_158.out _).trans (hHeld.1)), ((cell_far (p := ⟨gb158, _, none⟩) NB156_158.out _).trans (hHeld.2.1)), ((cell_far (p := ⟨gb158, _, none⟩) NB156_158.out _).trans (hHeld.2.2.1)), ((cell_far (p := ⟨gb158, _, none⟩) NB156_158.out _).trans (hHeld.2.2.2.1)), ((cell_far (p := ⟨gb158, _, none⟩) NB156_158.out _).trans (hHeld.2.2.2.2.1)), ((cell_far (p := ⟨gb158, _, none⟩) NB156_158.out _).trans (hHeld.2.2.2.2.2.1)), ((cell_far (p := ⟨gb158, _, none⟩) NB156_158.out _).trans (hHeld.2.2.2.2.2.2.1)), ((cell_far (p := ⟨gb158, _, none⟩) NB156_158.out _).trans (hHeld.2.2.2.2.2.2.2.1)), ((cell_far (p := ⟨gb158, _, none⟩) NB156_158.out _).trans (hHeld.2.2.2.2.2.2.2.2.1)), ((cell_far (p := ⟨gb158, _, none⟩) NB156_158.out _).trans (hHeld.2.2.2.2.2.2.2.2.2.1)), ((cell_far (p := ⟨gb158, _, none⟩) NB156_158.out _).trans (hHeld.2.2.2.2.2.2.2.2.2.2.1)), ((cell_far (p := ⟨gb158, _, none⟩) NB156_158.out _).trans (hHeld.2.2.2.2.2.2.2.2.2.2.2))⟩ (fun hHeld => ?_)
  clear hK K
  refine pu 12 (some 23) ?_ HT_ rfl rfl (by kernel_rfl) (fun _ _ _ h => h) (Or.inl ⟨by rfl, ?_⟩) ?_ ?_ ?_
  rotate_left
  ·intro w'; go_simp; with_reducible rfl
  rotate_left
  ·simp only [Act.put, sA, sB, sC, i64_w]; rfl
  refine on 13 none HT_ rfl rfl (by kernel_rfl) (by decide) (fun K hK => ?_)
  have hs15 : w13.cell? ⟨gb158, 3, none⟩ = some (.int .i64 0) := (blk_cell BK158.out 3).trans rfl
  have hfs15 := blk_frozen BK158.out 3
  have hns15_0 := NB156_158.out
  have hns15_1 := NB157_158.out
  have hms15_0 := NB158_156.out
  have hms15_1 := NB158_157.out
  refine skip_ (w1 := ?_) (by rfl) rfl ?_ ?_
  rotate_left
  ·go_simp
   rfl
  refine hK.out _ _ ⟨((cell_far (p := ⟨gb158, _, none⟩) NB156_158.out _).trans (hHeld.1)), ((cell_far (p := ⟨gb158, _, none⟩) NB156_158.out _).trans (hHeld.2.1)), ((cell_far (p := ⟨gb158, _, none⟩) NB156_158.out _).trans (hHeld.2.2.1)), ((cell_far (p := ⟨gb158, _, none⟩) NB156_158.out _).trans (hHeld.2.2.2.1)), ((cell_far (p := ⟨gb158, _, none⟩) NB156_158.out _).trans (hHeld.2.2.2.2.1)), ((cell_far (p := ⟨gb158, _, none⟩) NB156_158.out _).trans (hHeld.2.2.2.2.2.1)), ((cell_far (p := ⟨gb158, _, none⟩) NB156_158.out _).trans (hHeld.2.2.2.2.2.2.1)), ((cell_far (p := ⟨gb158, _, none⟩) NB156_158.out _).trans (hHeld.2.2.2.2.2.2.2.1)), ((cell_far (p := ⟨gb158, _, none⟩) NB156_158.out _).trans (hHeld.2.2.2.2.2.2.2.2.1)), ((cell_far (p := ⟨gb158, _, none⟩) NB156_158.out _).trans (hHeld.2.2.2.2.2.2.2.2.2.1)), ((cell_far (p := ⟨gb158, _, none⟩) NB156_158.out _).trans (hHeld.2.2.2.2.2.2.2.2.2.2.1)), ((cell_far (p := ⟨gb158, _, none⟩) NB156_158.out _).trans (hHeld.2.2.2.2.2.2.2.2.2.2.2))⟩ (fun hHeld => ?_)
  clear hK K
  refine pu 14 (some 24) ?_ HT_ rfl rfl (by kernel_rfl) (fun _ _ _ h => h) (Or.inl ⟨by rfl, ?_⟩) ?_ ?_ ?_
  rotate_left
  ·intro w'; go_simp; with_reducible rfl
  rotate_left
  ·simp only [Act.put, sA, sB, sC, i64_w]; rfl
  refine on 15 none HT_ rfl rfl (by kernel_rfl) (by decide) (fun K hK => ?_)
  have hs16 : w13.cell? ⟨gb158, 4, none⟩ = some (.int .i64 0) := (blk_cell BK158.out 4).trans rfl
  have hfs16 := blk_frozen BK158.out 4
  have hns16_0 := NB156_158.out
  have hns16_1 := NB157_158.out
  have hms16_0 := NB158_156.out
  have hms16_1 := NB158_157.out
  refine skip_ (w1 := ?_) (by rfl) rfl ?_ ?_
  rotate_left
  ·go_simp
   rfl
  refine hK.out _ _ ⟨((cell_far (p := ⟨gb158, _, none⟩) NB156_158.out _).trans (hHeld.1)), ((cell_far (p := ⟨gb158, _, none⟩) NB156_158.out _).trans (hHeld.2.1)), ((cell_far (p := ⟨gb158, _, none⟩) NB156_158.out _).trans (hHeld.2.2.1)), ((cell_far (p := ⟨gb158, _, none⟩) NB156_158.out _).trans (hHeld.2.2.2.1)), ((cell_far (p := ⟨gb158, _, none⟩) NB156_158.out _).trans (hHeld.2.2.2.2.1)), ((cell_far (p := ⟨gb158, _, none⟩) NB156_158.out _).trans (hHeld.2.2.2.2.2.1)), ((cell_far (p := ⟨gb158, _, none⟩) NB156_158.out _).trans (hHeld.2.2.2.2.2.2.1)), ((cell_far (p := ⟨gb158, _, none⟩) NB156_158.out _).trans (hHeld.2.2.2.2.2.2.2.1)), ((cell_far (p := ⟨gb158, _, none⟩) NB156_158.out _).trans (hHeld.2.2.2.2.2.2.2.2.1)), ((cell_far (p := ⟨gb158, _, none⟩) NB156_158.out _).trans (hHeld.2.2.2.2.2.2.2.2.2.1)), ((cell_far (p := ⟨gb158, _, none⟩) NB156_158.out _).trans (hHeld.2.2.2.2.2.2.2.2.2.2.1)), ((cell_far (p := ⟨gb158, _, none⟩) NB156_158.out _).trans (hHeld.2.2.2.2.2.2.2.2.2.2.2))⟩ (fun hHeld => ?_)
  clear hK K
  refine pu 16 (some 25) ?_ HT_ rfl rfl (by kernel_rfl) (fun _ _ _ h => h) (Or.inl ⟨by rfl, ?_⟩) ?_ ?_ ?_
  rotate_left
  ·intro w'; go_simp; with_reducible rfl
  rotate_left
  ·simp only [Act.put, sA, sB, sC, i64_w]; rfl
  refine on 17 none HT_ rfl rfl (by kernel_rfl) (by decide) (fun K hK => ?_)
  have hs17 : w13.cell? ⟨gb158, 5, none⟩ = some (.int .i64 0) := (blk_cell BK158.out 5).trans rfl
  have hfs17 := blk_frozen BK158.out 5
  have hns17_0 := NB156_158.out
  have hns17_1 := NB157_158.out
  have hms17_0 := NB158_156.out
  have hms17_1 := NB158_157.out
  refine skip_ (w1 := ?_) (by rfl) rfl ?_ ?_
  rotate_left
  ·go_simp
   rfl
  refine hK.out _ _ ⟨((cell_far (p := ⟨gb158, _, none⟩) NB156_158.out _).trans (hHeld.1)), ((cell_far (p := ⟨gb158, _, none⟩) NB156_158.out _).trans (hHeld.2.1)), ((cell_far (p := ⟨gb158, _, none⟩) NB156_158.out _).trans (hHeld.2.2.1)), ((cell_far (p := ⟨gb158, _, none⟩) NB156_158.out _).trans (hHeld.2.2.2.1)), ((cell_far (p := ⟨gb158, _, none⟩) NB156_158.out _).trans (hHeld.2.2.2.2.1)), ((cell_far (p := ⟨gb158, _, none⟩) NB156_158.out _).trans (hHeld.2.2.2.2.2.1)), ((cell_far (p := ⟨gb158, _, none⟩) NB156_158.out _).trans (hHeld.2.2.2.2.2.2.1)), ((cell_far (p := ⟨gb158, _, none⟩) NB156_158.out _).trans (hHeld.2.2.2.2.2.2.2.1)), ((cell_far (p := ⟨gb158, _, none⟩) NB156_158.out _).trans (hHeld.2.2.2.2.2.2.2.2.1)), ((cell_far (p := ⟨gb158, _, none⟩) NB156_158.out _).trans (hHeld.2.2.2.2.2.2.2.2.2.1)), ((cell_far (p := ⟨gb158, _, none⟩) NB156_158.out _).trans (hHeld.2.2.2.2.2.2.2.2.2.2.1)), ((cell_far (p := ⟨gb158, _, none⟩) NB156_158.out _).trans (hHeld.2.2.2.2.2.2.2.2.2.2.2))⟩ (fun hHeld => ?_)
  clear hK K
  refine pu 18 (some 26) ?_ HT_ rfl rfl (by kernel_rfl) (fun _ _ _ h => h) (Or.inl ⟨by rfl, ?_⟩) ?_ ?_ ?_
  rotate_left
  ·intro w'; go_simp; with_reducible rfl
  rotate_left
  ·simp only [Act.put, sA, sB, sC, i64_w]; rfl
  refine on 19 none HT_ rfl rfl (by kernel_rfl) (by decide) (fun K hK => ?_)
  have hs18 : w13.cell? ⟨gb158, 6, none⟩ = some (.int .i64 0) := (blk_cell BK158.out 6).trans rfl
  have hfs18 := blk_frozen BK158.out 6
  have hns18_0 := NB156_158.out
  have hns18_1 := NB157_158.out
  have hms18_0 := NB158_156.out
  have hms18_1 := NB158_157.out
  refine skip_ (w1 := ?_) (by rfl) rfl ?_ ?_
  rotate_left
  ·go_simp
   rfl
  refine hK.out _ _ ⟨((cell_far (p := ⟨gb158, _, none⟩) NB156_158.out _).trans (hHeld.1)), ((cell_far (p := ⟨gb158, _, none⟩) NB156_158.out _).trans (hHeld.2.1)), ((cell_far (p := ⟨gb158, _, none⟩) NB156_158.out _).trans (hHeld.2.2.1)), ((cell_far (p := ⟨gb158, _, none⟩) NB156_158.out _).trans (hHeld.2.2.2.1)), ((cell_far (p := ⟨gb158, _, none⟩) NB156_158.out _).trans (hHeld.2.2.2.2.1)), ((cell_far (p := ⟨gb158, _, none⟩) NB156_158.out _).trans (hHeld.2.2.2.2.2.1)), ((cell_far (p := ⟨gb158, _, none⟩) NB156_158.out _).trans (hHeld.2.2.2.2.2.2.1)), ((cell_far (p := ⟨gb158, _, none⟩) NB156_158.out _).trans (hHeld.2.2.2.2.2.2.2.1)), ((cell_far (p := ⟨gb158, _, none⟩) NB156_158.out _).trans (hHeld.2.2.2.2.2.2.2.2.1)), ((cell_far (p := ⟨gb158, _, none⟩) NB156_158.out _).trans (hHeld.2.2.2.2.2.2.2.2.2.1)), ((cell_far (p := ⟨gb158, _, none⟩) NB156_158.out _).trans (hHeld.2.2.2.2.2.2.2.2.2.2.1)), ((cell_far (p := ⟨gb158, _, none⟩) NB156_158.out _).trans (hHeld.2.2.2.2.2.2.2.2.2.2.2))⟩ (fun hHeld => ?_)
  clear hK K
  refine done_ (done_of HT_.out (by kernel_rfl)) ?_
  try go_wp2
  have n0_ : Aside0 ((((((w13.setCell ⟨gb158, 2, none⟩ (.int .i64 a0_2)).setCell ⟨gb158, 3, none⟩ (.int .i64 a0_3)).setCell ⟨gb158, 4, none⟩ (.int .i64 a0_4)).setCell ⟨gb158, 5, none⟩ (.int .i64 a0_5)).setCell ⟨gb158, 6, none⟩ (.int .i64 a0_6)).heap[gb156]? = some (.cells #[.int .i64 a0_0, .int .i64 a0_1, .int .i64 a0_2, .int .i64 a0_3, .int .i64 a0_4, .int .i64 a0_5, .int .i64 a0_6, .int .i64 a0_7, .int .i64 a0_8, .int .i64 a0_9, .int .i64 a0_10, .bool a0_11] 39 (0, 0))) := ⟨by (with_reducible repeat (first | apply kN | apply kD | apply kA)); refine blk_far ?_ NB156_158.out _; (with_reducible repeat (first | apply kN | apply kD | apply kA)); refine blk_far ?_ NB156_158.out _; (with_reducible repeat (first | apply kN | apply kD | apply kA)); refine blk_far ?_ NB156_158.out _; (with_reducible repeat (first | apply kN | apply kD | apply kA)); refine blk_far ?_ NB156_158.out _; (with_reducible repeat (first | apply kN | apply kD | apply kA)); refine blk_far ?_ NB156_158.out _; (with_reducible repeat (first | apply kN | apply kD | apply kA)); exact BK156.out⟩
  have n1_ : Aside0 ((((((w13.setCell ⟨gb158, 2, none⟩ (.int .i64 a0_2)).setCell ⟨gb158, 3, none⟩ (.int .i64 a0_3)).setCell ⟨gb158, 4, none⟩ (.int .i64 a0_4)).setCell ⟨gb158, 5, none⟩ (.int .i64 a0_5)).setCell ⟨gb158, 6, none⟩ (.int .i64 a0_6)).heap[gb157]? = some (.cells #[.int .i64 0, .int .i64 0, .int .i64 0, .int .i64 0, .int .i64 0, .int .i64 0, .int .i64 0, .int .i64 0, .int .i64 0, .int .i64 0, .int .i64 0, .bool false] 39 (0, 0))) := ⟨by (with_reducible repeat (first | apply kN | apply kD | apply kA)); refine blk_far ?_ NB157_158.out _; (with_reducible repeat (first | apply kN | apply kD | apply kA)); refine blk_far ?_ NB157_158.out _; (with_reducible repeat (first | apply kN | apply kD | apply kA)); refine blk_far ?_ NB157_158.out _; (with_reducible repeat (first | apply kN | apply kD | apply kA)); refine blk_far ?_ NB157_158.out _; (with_reducible repeat (first | apply kN | apply kD | apply kA)); refine blk_far ?_ NB157_158.out _; (with_reducible repeat (first | apply kN | apply kD | apply kA)); exact BK157.out⟩
  have n2_ : Aside0 ((((((w13.setCell ⟨gb158, 2, none⟩ (.int .i64 a0_2)).setCell ⟨gb158, 3, none⟩ (.int .i64 a0_3)).setCell ⟨gb158, 4, none⟩ (.int .i64 a0_4)).setCell ⟨gb158, 5, none⟩ (.int .i64 a0_5)).setCell ⟨gb158, 6, none⟩ (.int .i64 a0_6)).heap[gb158]? = some (.cells #[.int .i64 a0_0, .int .i64 0, .int .i64 a0_2, .int .i64 a0_3, .int .i64 a0_4, .int .i64 a0_5, .int .i64 a0_6, .int .i64 0, .int .i64 0, .int .i64 0, .int .i64 0, .bool false] 39 (0, 0))) := ⟨by (with_reducible repeat (first | apply kN | apply kD | apply kA)); refine blk_put (cs := #[.int .i64 a0_0, .int .i64 0, .int .i64 a0_2, .int .i64 a0_3, .int .i64 a0_4, .int .i64 a0_5, .int .i64 0, .int .i64 0, .int .i64 0, .int .i64 0, .int .i64 0, .bool false]) ?_ 6 _ rfl; (with_reducible repeat (first | apply kN | apply kD | apply kA)); refine blk_put (cs := #[.int .i64 a0_0, .int .i64 0, .int .i64 a0_2, .int .i64 a0_3, .int .i64 a0_4, .int .i64 0, .int .i64 0, .int .i64 0, .int .i64 0, .int .i64 0, .int .i64 0, .bool false]) ?_ 5 _ rfl; (with_reducible repeat (first | apply kN | apply kD | apply kA)); refine blk_put (cs := #[.int .i64 a0_0, .int .i64 0, .int .i64 a0_2, .int .i64 a0_3, .int .i64 0, .int .i64 0, .int .i64 0, .int .i64 0, .int .i64 0, .int .i64 0, .int .i64 0, .bool false]) ?_ 4 _ rfl; (with_reducible repeat (first | apply kN | apply kD | apply kA)); refine blk_put (cs := #[.int .i64 a0_0, .int .i64 0, .int .i64 a0_2, .int .i64 0, .int .i64 0, .int .i64 0, .int .i64 0, .int .i64 0, .int .i64 0, .int .i64 0, .int .i64 0, .bool false]) ?_ 3 _ rfl; (with_reducible repeat (first | apply kN | apply kD | apply kA)); refine blk_put (cs := #[.int .i64 a0_0, .int .i64 0, .int .i64 0, .int .i64 0, .int .i64 0, .int .i64 0, .int .i64 0, .int .i64 0, .int .i64 0, .int .i64 0, .int .i64 0, .bool false]) ?_ 2 _ rfl; (with_reducible repeat (first | apply kN | apply kD | apply kA)); exact BK158.out⟩
  have n3_ : Aside0 (Below w.heap.size w (((((w13.setCell ⟨gb158, 2, none⟩ (.int .i64 a0_2)).setCell ⟨gb158, 3, none⟩ (.int .i64 a0_3)).setCell ⟨gb158, 4, none⟩ (.int .i64 a0_4)).setCell ⟨gb158, 5, none⟩ (.int .i64 a0_5)).setCell ⟨gb158, 6, none⟩ (.int .i64 a0_6))) := ⟨by repeat (first | (with_reducible first | exact HB.out | apply bA | apply bN | apply bD | refine bS ?_ GE156.out | refine bS ?_ GE157.out | refine bS ?_ GE158.out) | exact HB.out)⟩
  (try clear BK156)
  (try clear BK157)
  (try clear BK158)
  (try clear HB)
  generalize (((((w13.setCell ⟨gb158, 2, none⟩ (.int .i64 a0_2)).setCell ⟨gb158, 3, none⟩ (.int .i64 a0_3)).setCell ⟨gb158, 4, none⟩ (.int .i64 a0_4)).setCell ⟨gb158, 5, none⟩ (.int .i64 a0_5)).setCell ⟨gb158, 6, none⟩ (.int .i64 a0_6)) = w19 at n0_ n1_ n2_ n3_ ⊢
  have BK156 := n0_; have BK157 := n1_; have BK158 := n2_; have HB := n3_
  clear n0_ n1_ n2_ n3_
  have n0_ := Aside0.mk (blk_drew BK156.out)
  have n1_ := Aside0.mk (blk_drew BK157.out)
  have n2_ := Aside0.mk (blk_drew BK158.out)
  have n3_ := Aside0.mk (below_drew1 HB.out)
  clear BK156 BK157 BK158 HB
  have BK156 := n0_; have BK157 := n1_; have BK158 := n2_; have HB := n3_
  clear n0_ n1_ n2_ n3_
  refine start_ (n := 8) (S := fun w' => w'.cell? ⟨gb156, 0, none⟩ = some (.int .i64 a0_0) ∧ w'.cell? ⟨gb156, 1, none⟩ = some (.int .i64 a0_1) ∧ w'.cell? ⟨gb156, 2, none⟩ = some (.int .i64 a0_2) ∧ w'.cell? ⟨gb156, 3, none⟩ = some (.int .i64 a0_3) ∧ w'.cell? ⟨gb156, 4, none⟩ = some (.int .i64 a0_4) ∧ w'.cell? ⟨gb156, 5, none⟩ = some (.int .i64 a0_5) ∧ w'.cell? ⟨gb156, 6, none⟩ = some (.int .i64 a0_6) ∧ w'.cell? ⟨gb156, 7, none⟩ = some (.int .i64 a0_7) ∧ w'.cell? ⟨gb156, 8, none⟩ = some (.int .i64 a0_8) ∧ w'.cell? ⟨gb156, 9, none⟩ = some (.int .i64 a0_9) ∧ w'.cell? ⟨gb156, 10, none⟩ = some (.int .i64 a0_10) ∧ w'.cell? ⟨gb156, 11, none⟩ = some (.bool a0_11)) (ds := []) #[false, false, false, false, false, false, false, false] (by kernel_rfl) rfl rfl ⟨(blk_cell BK156.out 0).trans rfl, (blk_cell BK156.out 1).trans rfl, (blk_cell BK156.out 2).trans rfl, (blk_cell BK156.out 3).trans rfl, (blk_cell BK156.out 4).trans rfl, (blk_cell BK156.out 5).trans rfl, (blk_cell BK156.out 6).trans rfl, (blk_cell BK156.out 7).trans rfl, (blk_cell BK156.out 8).trans rfl, (blk_cell BK156.out 9).trans rfl, (blk_cell BK156.out 10).trans rfl, (blk_cell BK156.out 11).trans rfl⟩ (fun hHeld => ?_); refine with_tabW cmd_Command_Clean.tab6 cmd_Command_Clean.bits6 (fun HT_ HW_ => ?_)
  generalize w19.drew = w20 at BK156 BK157 BK158 HB hHeld ⊢
  refine pu 0 (some 27) ?_ HT_ rfl rfl (by kernel_rfl) (fun _ _ _ h => h) (Or.inl ⟨by rfl, ?_⟩) ?_ ?_ ?_
  rotate_left
  ·intro w'; go_simp; with_reducible rfl
  rotate_left
  ·simp only [Act.put, sA, sB, sC, i64_w]; rfl
  refine pu 2 (some 29) ?_ HT_ rfl rfl (by kernel_rfl) (fun _ _ _ h => h) (Or.inl ⟨by rfl, ?_⟩) ?_ ?_ ?_
  rotate_left
  ·intro w'; go_simp; with_reducible rfl
  rotate_left
  ·simp only [Act.put, sA, sB, sC, i64_w]; rfl
  refine tk 1 (some 28) ?_ HT_ HW_ rfl rfl (by kernel_rfl) (fun _ _ _ h => h) (Or.inl ⟨by rfl, ?_⟩) hHeld ?_ ?_ ?_
  rotate_left
  ·rintro w' ⟨s0, s1, s2, s3, s4, s5, s6, s7, s8, s9, s10, s11⟩; go_simp; with_reducible rfl
  rotate_left
  ·simp only [Act.put, sA, sB, sC, i64_w]; rfl
  refine pu 4 (some 31) ?_ HT_ rfl rfl (by kernel_rfl) (fun _ _ _ h => h) (Or.inl ⟨by rfl, ?_⟩) ?_ ?_ ?_
  rotate_left
  ·intro w'; go_simp; with_reducible rfl
  rotate_left
  ·simp only [Act.put, sA, sB, sC, i64_w]; rfl
  refine tk 3 (some 30) ?_ HT_ HW_ rfl rfl (by kernel_rfl) (fun _ _ _ h => h) (Or.inl ⟨by rfl, ?_⟩) hHeld ?_ ?_ ?_
  rotate_left
  ·rintro w' ⟨s0, s1, s2, s3, s4, s5, s6, s7, s8, s9, s10, s11⟩; go_simp; with_reducible rfl
  rotate_left
  ·simp only [Act.put, sA, sB, sC, i64_w]; rfl
  refine on 5 none HT_ rfl rfl (by kernel_rfl) (by decide) (fun K hK => ?_)
  have hs21 : w20.cell? ⟨gb158, 9, none⟩ = some (.int .i64 0) := (blk_cell BK158.out 9).trans rfl
  have hfs21 := blk_frozen BK158.out 9
  have hns21_0 := NB156_158.out
  have hns21_1 := NB157_158.out
  have hms21_0 := NB158_156.out
  have hms21_1 := NB158_157.out
  refine skip_ (w1 := ?_) (by rfl) rfl ?_ ?_
  rotate_left
  ·go_simp
   rfl
  refine hK.out _ _ ⟨((cell_far (p := ⟨gb158, _, none⟩) NB156_158.out _).trans (hHeld.1)), ((cell_far (p := ⟨gb158, _, none⟩) NB156_158.out _).trans (hHeld.2.1)), ((cell_far (p := ⟨gb158, _, none⟩) NB156_158.out _).trans (hHeld.2.2.1)), ((cell_far (p := ⟨gb158, _, none⟩) NB156_158.out _).trans (hHeld.2.2.2.1)), ((cell_far (p := ⟨gb158, _, none⟩) NB156_158.out _).trans (hHeld.2.2.2.2.1)), ((cell_far (p := ⟨gb158, _, none⟩) NB156_158.out _).trans (hHeld.2.2.2.2.2.1)), ((cell_far (p := ⟨gb158, _, none⟩) NB156_158.out _).trans (hHeld.2.2.2.2.2.2.1)), ((cell_far (p := ⟨gb158, _, none⟩) NB156_158.out _).trans (hHeld.2.2.2.2.2.2.2.1)), ((cell_far (p := ⟨gb158, _, none⟩) NB156_158.out _).trans (hHeld.2.2.2.2.2.2.2.2.1)), ((cell_far (p := ⟨gb158, _, none⟩) NB156_158.out _).trans (hHeld.2.2.2.2.2.2.2.2.2.1)), ((cell_far (p := ⟨gb158, _, none⟩) NB156_158.out _).trans (hHeld.2.2.2.2.2.2.2.2.2.2.1)), ((cell_far (p := ⟨gb158, _, none⟩) NB156_158.out _).trans (hHeld.2.2.2.2.2.2.2.2.2.2.2))⟩ (fun hHeld => ?_)
  clear hK K
  refine pu 6 (some 32) ?_ HT_ rfl rfl (by kernel_rfl) (fun _ _ _ h => h) (Or.inl ⟨by rfl, ?_⟩) ?_ ?_ ?_
  rotate_left
  ·intro w'; go_simp; with_reducible rfl
  rotate_left
  ·simp only [Act.put, sA, sB, sC, i64_w]; rfl
  refine on 7 none HT_ rfl rfl (by kernel_rfl) (by decide) (fun K hK => ?_)
  have hs22 : w20.cell? ⟨gb158, 11, none⟩ = some (.bool false) := (blk_cell BK158.out 11).trans rfl
  have hfs22 := blk_frozen BK158.out 11
  have hns22_0 := NB156_158.out
  have hns22_1 := NB157_158.out
  have hms22_0 := NB158_156.out
  have hms22_1 := NB158_157.out
  refine skip_ (w1 := ?_) (by rfl) rfl ?_ ?_
  rotate_left
  ·go_simp
   rfl
  refine hK.out _ _ ⟨((cell_far (p := ⟨gb158, _, none⟩) NB156_158.out _).trans (hHeld.1)), ((cell_far (p := ⟨gb158, _, none⟩) NB156_158.out _).trans (hHeld.2.1)), ((cell_far (p := ⟨gb158, _, none⟩) NB156_158.out _).trans (hHeld.2.2.1)), ((cell_far (p := ⟨gb158, _, none⟩) NB156_158.out _).trans (hHeld.2.2.2.1)), ((cell_far (p := ⟨gb158, _, none⟩) NB156_158.out _).trans (hHeld.2.2.2.2.1)), ((cell_far (p := ⟨gb158, _, none⟩) NB156_158.out _).trans (hHeld.2.2.2.2.2.1)), ((cell_far (p := ⟨gb158, _, none⟩) NB156_158.out _).trans (hHeld.2.2.2.2.2.2.1)), ((cell_far (p := ⟨gb158, _, none⟩) NB156_158.out _).trans (hHeld.2.2.2.2.2.2.2.1)), ((cell_far (p := ⟨gb158, _, none⟩) NB156_158.out _).trans (hHeld.2.2.2.2.2.2.2.2.1)), ((cell_far (p := ⟨gb158, _, none⟩) NB156_158.out _).trans (hHeld.2.2.2.2.2.2.2.2.2.1)), ((cell_far (p := ⟨gb158, _, none⟩) NB156_158.out _).trans (hHeld.2.2.2.2.2.2.2.2.2.2.1)), ((cell_far (p := ⟨gb158, _, none⟩) NB156_158.out _).trans (hHeld.2.2.2.2.2.2.2.2.2.2.2))⟩ (fun hHeld => ?_)
  clear hK K
  refine done_ (done_of HT_.out (by kernel_rfl)) ?_
  have hcz23_0 : w20.cell? ⟨gb158, 0, none⟩ = some (.int .i64 a0_0) := (blk_cell BK158.out 0).trans rfl
  have hcz23_1 : w20.cell? ⟨gb158, 1, none⟩ = some (.int .i64 0) := (blk_cell BK158.out 1).trans rfl
  have hcz23_2 : w20.cell? ⟨gb158, 2, none⟩ = some (.int .i64 a0_2) := (blk_cell BK158.out 2).trans rfl
  have hcz23_3 : w20.cell? ⟨gb158, 3, none⟩ = some (.int .i64 a0_3) := (blk_cell BK158.out 3).trans rfl
  have hcz23_4 : w20.cell? ⟨gb158, 4, none⟩ = some (.int .i64 a0_4) := (blk_cell BK158.out 4).trans rfl
  have hcz23_5 : w20.cell? ⟨gb158, 5, none⟩ = some (.int .i64 a0_5) := (blk_cell BK158.out 5).trans rfl
  have hcz23_6 : w20.cell? ⟨gb158, 6, none⟩ = some (.int .i64 a0_6) := (blk_cell BK158.out 6).trans rfl
  have hcz23_7 : w20.cell? ⟨gb158, 7, none⟩ = some (.int .i64 0) := (blk_cell BK158.out 7).trans rfl
  have hcz23_8 : w20.cell? ⟨gb158, 8, none⟩ = some (.int .i64 0) := (blk_cell BK158.out 8).trans rfl
  have hcz23_9 : w20.cell? ⟨gb158, 9, none⟩ = some (.int .i64 0) := (blk_cell BK158.out 9).trans rfl
  have hcz23_10 : w20.cell? ⟨gb158, 10, none⟩ = some (.int .i64 0) := (blk_cell BK158.out 10).trans rfl
  have hcz23_11 : w20.cell? ⟨gb158, 11, none⟩ = some (.bool false) := (blk_cell BK158.out 11).trans rfl
  have hfz23_0 := blk_frozen BK158.out 0
  have hfz23_1 := blk_frozen BK158.out 1
  have hfz23_2 := blk_frozen BK158.out 2
  have hfz23_3 := blk_frozen BK158.out 3
  have hfz23_4 := blk_frozen BK158.out 4
  have hfz23_5 := blk_frozen BK158.out 5
  have hfz23_6 := blk_frozen BK158.out 6
  have hfz23_7 := blk_frozen BK158.out 7
  have hfz23_8 := blk_frozen BK158.out 8
  have hfz23_9 := blk_frozen BK158.out 9
  have hfz23_10 := blk_frozen BK158.out 10
  have hfz23_11 := blk_frozen BK158.out 11
  have hcz24_0 : w20.cell? ⟨gb157, 0, none⟩ = some (.int .i64 0) := (blk_cell BK157.out 0).trans rfl
  have hcz24_1 : w20.cell? ⟨gb157, 1, none⟩ = some (.int .i64 0) := (blk_cell BK157.out 1).trans rfl
  have hcz24_2 : w20.cell? ⟨gb157, 2, none⟩ = some (.int .i64 0) := (blk_cell BK157.out 2).trans rfl
  have hcz24_3 : w20.cell? ⟨gb157, 3, none⟩ = some (.int .i64 0) := (blk_cell BK157.out 3).trans rfl
  have hcz24_4 : w20.cell? ⟨gb157, 4, none⟩ = some (.int .i64 0) := (blk_cell BK157.out 4).trans rfl
  have hcz24_5 : w20.cell? ⟨gb157, 5, none⟩ = some (.int .i64 0) := (blk_cell BK157.out 5).trans rfl
  have hcz24_6 : w20.cell? ⟨gb157, 6, none⟩ = some (.int .i64 0) := (blk_cell BK157.out 6).trans rfl
  have hcz24_7 : w20.cell? ⟨gb157, 7, none⟩ = some (.int .i64 0) := (blk_cell BK157.out 7).trans rfl
  have hcz24_8 : w20.cell? ⟨gb157, 8, none⟩ = some (.int .i64 0) := (blk_cell BK157.out 8).trans rfl
  have hcz24_9 : w20.cell? ⟨gb157, 9, none⟩ = some (.int .i64 0) := (blk_cell BK157.out 9).trans rfl
  have hcz24_10 : w20.cell? ⟨gb157, 10, none⟩ = some (.int .i64 0) := (blk_cell BK157.out 10).trans rfl
  have hcz24_11 : w20.cell? ⟨gb157, 11, none⟩ = some (.bool false) := (blk_cell BK157.out 11).trans rfl
  have hfz24_0 := blk_frozen BK157.out 0
  have hfz24_1 := blk_frozen BK157.out 1
  have hfz24_2 := blk_frozen BK157.out 2
  have hfz24_3 := blk_frozen BK157.out 3
  have hfz24_4 := blk_frozen BK157.out 4
  have hfz24_5 := blk_frozen BK157.out 5
  have hfz24_6 := blk_frozen BK157.out 6
  have hfz24_7 := blk_frozen BK157.out 7
  have hfz24_8 := blk_frozen BK157.out 8
  have hfz24_9 := blk_frozen BK157.out 9
  have hfz24_10 := blk_frozen BK157.out 10
  have hfz24_11 := blk_frozen BK157.out 11
  try go_wp2
  refine bodyPost_ret (results_cell_row rfl _ _ gb157 39 #[.int .i64 a0_0, .int .i64 0, .int .i64 a0_2, .int .i64 a0_3, .int .i64 a0_4, .int .i64 a0_5, .int .i64 a0_6, .int .i64 0, .int .i64 0, .int .i64 a0_9, .int .i64 0, .bool a0_11] (0, 0) _ rfl (by (with_reducible repeat (first | apply kN | apply kD | apply kA)); refine blk_put (cs := #[.int .i64 a0_0, .int .i64 0, .int .i64 a0_2, .int .i64 a0_3, .int .i64 a0_4, .int .i64 a0_5, .int .i64 a0_6, .int .i64 0, .int .i64 0, .int .i64 a0_9, .int .i64 0, .bool false]) ?_ 11 _ rfl; (with_reducible repeat (first | apply kN | apply kD | apply kA)); refine blk_put (cs := #[.int .i64 a0_0, .int .i64 0, .int .i64 a0_2, .int .i64 a0_3, .int .i64 a0_4, .int .i64 a0_5, .int .i64 a0_6, .int .i64 0, .int .i64 0, .int .i64 a0_9, .int .i64 0, .bool false]) ?_ 10 _ rfl; (with_reducible repeat (first | apply kN | apply kD | apply kA)); refine blk_put (cs := #[.int .i64 a0_0, .int .i64 0, .int .i64 a0_2, .int .i64 a0_3, .int .i64 a0_4, .int .i64 a0_5, .int .i64 a0_6, .int .i64 0, .int .i64 0, .int .i64 0, .int .i64 0, .bool false]) ?_ 9 _ rfl; (with_reducible repeat (first | apply kN | apply kD | apply kA)); refine blk_put (cs := #[.int .i64 a0_0, .int .i64 0, .int .i64 a0_2, .int .i64 a0_3, .int .i64 a0_4, .int .i64 a0_5, .int .i64 a0_6, .int .i64 0, .int .i64 0, .int .i64 0, .int .i64 0, .bool false]) ?_ 8 _ rfl; (with_reducible repeat (first | apply kN | apply kD | apply kA)); refine blk_put (cs := #[.int .i64 a0_0, .int .i64 0, .int .i64 a0_2, .int .i64 a0_3, .int .i64 a0_4, .int .i64 a0_5, .int .i64 a0_6, .int .i64 0, .int .i64 0, .int .i64 0, .int .i64 0, .bool false]) ?_ 7 _ rfl; (with_reducible repeat (first | apply kN | apply kD | apply kA)); refine blk_put (cs := #[.int .i64 a0_0, .int .i64 0, .int .i64 a0_2, .int .i64 a0_3, .int .i64 a0_4, .int .i64 a0_5, .int .i64 0, .int .i64 0, .int .i64 0, .int .i64 0, .int .i64 0, .bool false]) ?_ 6 _ rfl; (with_reducible repeat (first | apply kN | apply kD | apply kA)); refine blk_put (cs := #[.int .i64 a0_0, .int .i64 0, .int .i64 a0_2, .int .i64 a0_3, .int .i64 a0_4, .int .i64 0, .int .i64 0, .int .i64 0, .int .i64 0, .int .i64 0, .int .i64 0, .bool false]) ?_ 5 _ rfl; (with_reducible repeat (first | apply kN | apply kD | apply kA)); refine blk_put (cs := #[.int .i64 a0_0, .int .i64 0, .int .i64 a0_2, .int .i64 a0_3, .int .i64 0, .int .i64 0, .int .i64 0, .int .i64 0, .int .i64 0, .int .i64 0, .int .i64 0, .bool false]) ?_ 4 _ rfl; (with_reducible repeat (first | apply kN | apply kD | apply kA)); refine blk_put (cs := #[.int .i64 a0_0, .int .i64 0, .int .i64 a0_2, .int .i64 0, .int .i64 0, .int .i64 0, .int .i64 0, .int .i64 0, .int .i64 0, .int .i64 0, .int .i64 0, .bool false]) ?_ 3 _ rfl; (with_reducible repeat (first | apply kN | apply kD | apply kA)); refine blk_put (cs := #[.int .i64 a0_0, .int .i64 0, .int .i64 0, .int .i64 0, .int .i64 0, .int .i64 0, .int .i64 0, .int .i64 0, .int .i64 0, .int .i64 0, .int .i64 0, .bool false]) ?_ 2 _ rfl; (with_reducible repeat (first | apply kN | apply kD | apply kA)); refine blk_put (cs := #[.int .i64 a0_0, .int .i64 0, .int .i64 0, .int .i64 0, .int .i64 0, .int .i64 0, .int .i64 0, .int .i64 0, .int .i64 0, .int .i64 0, .int .i64 0, .bool false]) ?_ 1 _ rfl; (with_reducible repeat (first | apply kN | apply kD | apply kA)); refine blk_put (cs := #[.int .i64 0, .int .i64 0, .int .i64 0, .int .i64 0, .int .i64 0, .int .i64 0, .int .i64 0, .int .i64 0, .int .i64 0, .int .i64 0, .int .i64 0, .bool false]) ?_ 0 _ rfl; (with_reducible repeat (first | apply kN | apply kD | apply kA)); refine blk_far ?_ NB157_158.out _; (with_reducible repeat (first | apply kN | apply kD | apply kA)); refine blk_far ?_ NB157_158.out _; (with_reducible repeat (first | apply kN | apply kD | apply kA)); exact BK157.out) Tryd.underlying39 rfl (by kernel_rfl)) rfl ?_
  exact ⟨by first | rfl | (simp [errW_none, errW_some] <;> rfl) | (simp [*, errW_none, errW_some] <;> rfl), by repeat (first | (with_reducible first | exact HB.out | apply bA | apply bN | apply bD | refine bS ?_ GE156.out | refine bS ?_ GE157.out | refine bS ?_ GE158.out) | exact HB.out)⟩
 ·rw [if_neg c2] at H
  have c2b0 : (a0_0 == 1) = false := beq_eq_false_iff_ne.mpr c2
  have c2b1 : (a0_0 != 1) = true := bne_iff_ne.mpr c2
  have HC25 := Aside0.mk H
  clear H
  go_enter Tryd.func26, Tryd.ntmps26
  go_upto_if 33 with (first | ((with_reducible refine gate_dst (N := 1) rfl ?_); refine box_event ?hg (N := 1) ?hd (cs := #[.int .i64 a0_0, .int .i64 a0_1, .int .i64 a0_2, .int .i64 a0_3, .int .i64 a0_4, .int .i64 a0_5, .int .i64 a0_6, .int .i64 a0_7, .int .i64 a0_8, .int .i64 a0_9, .int .i64 a0_10, .bool a0_11]) (t := 39) ?hr ?_; (case hd => rfl); (case hg => rfl); (case hr => first | (go_simp; done) | (go_simp; rfl)); intro gb156 hg w26 hbox hb; have n0_ := Aside0.mk (below_step (by repeat (first | (with_reducible first | exact HB.out | apply bA | apply bN | apply bD) | exact HB.out)) hb); have n1_ := Aside0.mk (hbox); have n2_ := Aside0.mk ((by rw [hg]; exact (below_size (by repeat (first | (with_reducible first | exact HB.out | apply bA | apply bN | apply bD) | exact HB.out))) : w.heap.size ≤ gb156)); have n3_ := Aside0.mk ((by rw [hg]; exact (below_size (by repeat (first | (with_reducible first | exact HB.out | apply bA | apply bN | apply bD) | exact HB.out))) : w.heap.size ≤ gb156)); clear HB; have HB := n0_; have BK156 := n1_; have GW156 := n2_; have GE156 := n3_; clear n0_ n1_ n2_ n3_; clear hb hbox hg) | ((with_reducible refine gate_dst (N := 2) rfl ?_); refine box_event ?hg (N := 2) ?hd (cs := #[.int .i64 0, .int .i64 0, .int .i64 0, .int .i64 0, .int .i64 0, .int .i64 0, .int .i64 0, .int .i64 0, .int .i64 0, .int .i64 0, .int .i64 0, .bool false]) (t := 39) ?hr ?_; (case hd => rfl); (case hg => rfl); (case hr => first | (go_simp; done) | (go_simp; rfl)); intro gb157 hg w27 hbox hb; have n0_ := Aside0.mk (blk_below (g := gb156) (o := .cells #[.int .i64 a0_0, .int .i64 a0_1, .int .i64 a0_2, .int .i64 a0_3, .int .i64 a0_4, .int .i64 a0_5, .int .i64 a0_6, .int .i64 a0_7, .int .i64 a0_8, .int .i64 a0_9, .int .i64 a0_10, .bool a0_11] 39 (0, 0)) (by (with_reducible repeat (first | apply kN | apply kD | apply kA)); exact BK156.out) hb); have n1_ := Aside0.mk (below_step (by repeat (first | (with_reducible first | exact HB.out | apply bA | apply bN | apply bD | refine bS ?_ GE156.out) | exact HB.out)) hb); have n2_ := Aside0.mk (hbox); have n3_ := Aside0.mk ((by rw [hg]; exact (below_size (by repeat (first | (with_reducible first | exact HB.out | apply bA | apply bN | apply bD | refine bS ?_ GE156.out) | exact HB.out))) : w.heap.size ≤ gb157)); have n4_ := Aside0.mk ((by rw [hg]; exact (below_size (by repeat (first | (with_reducible first | exact HB.out | apply bA | apply bN | apply bD | refine bS ?_ GE156.out) | exact HB.out))) : w.heap.size ≤ gb157)); have n5_ := Aside0.mk ((by rw [hg]; exact Nat.ne_of_lt (blk_lt (g := gb156) (o := .cells #[.int .i64 a0_0, .int .i64 a0_1, .int .i64 a0_2, .int .i64 a0_3, .int .i64 a0_4, .int .i64 a0_5, .int .i64 a0_6, .int .i64 a0_7, .int .i64 a0_8, .int .i64 a0_9, .int .i64 a0_10, .bool a0_11] 39 (0, 0)) (by (with_reducible repeat (first | apply kN | apply kD | apply kA)); exact BK156.out)) : gb156 ≠ gb157)); have n6_ := Aside0.mk ((by rw [hg]; exact Nat.ne_of_gt (blk_lt (g := gb156) (o := .cells #[.int .i64 a0_0, .int .i64 a0_1, .int .i64 a0_2, .int .i64 a0_3, .int .i64 a0_4, .int .i64 a0_5, .int .i64 a0_6, .int .i64 a0_7, .int .i64 a0_8, .int .i64 a0_9, .int .i64 a0_10, .bool a0_11] 39 (0, 0)) (by (with_reducible repeat (first | apply kN | apply kD | apply kA)); exact BK156.out)) : gb157 ≠ gb156)); clear BK156; clear HB; have BK156 := n0_; have HB := n1_; have BK157 := n2_; have GW157 := n3_; have GE157 := n4_; have NB156_157 := n5_; have NB157_156 := n6_; clear n0_ n1_ n2_ n3_ n4_ n5_ n6_; clear hb hbox hg; have hnb28 := NB156_157.out; have hnc28 := NB157_156.out; have hcz29_0 : w27.cell? ⟨gb156, 0, none⟩ = some (.int .i64 a0_0) := (blk_cell BK156.out 0).trans rfl; have hcz29_1 : w27.cell? ⟨gb156, 1, none⟩ = some (.int .i64 a0_1) := (blk_cell BK156.out 1).trans rfl; have hcz29_2 : w27.cell? ⟨gb156, 2, none⟩ = some (.int .i64 a0_2) := (blk_cell BK156.out 2).trans rfl; have hcz29_3 : w27.cell? ⟨gb156, 3, none⟩ = some (.int .i64 a0_3) := (blk_cell BK156.out 3).trans rfl; have hcz29_4 : w27.cell? ⟨gb156, 4, none⟩ = some (.int .i64 a0_4) := (blk_cell BK156.out 4).trans rfl; have hcz29_5 : w27.cell? ⟨gb156, 5, none⟩ = some (.int .i64 a0_5) := (blk_cell BK156.out 5).trans rfl; have hcz29_6 : w27.cell? ⟨gb156, 6, none⟩ = some (.int .i64 a0_6) := (blk_cell BK156.out 6).trans rfl; have hcz29_7 : w27.cell? ⟨gb156, 7, none⟩ = some (.int .i64 a0_7) := (blk_cell BK156.out 7).trans rfl; have hcz29_8 : w27.cell? ⟨gb156, 8, none⟩ = some (.int .i64 a0_8) := (blk_cell BK156.out 8).trans rfl; have hcz29_9 : w27.cell? ⟨gb156, 9, none⟩ = some (.int .i64 a0_9) := (blk_cell BK156.out 9).trans rfl; have hcz29_10 : w27.cell? ⟨gb156, 10, none⟩ = some (.int .i64 a0_10) := (blk_cell BK156.out 10).trans rfl; have hcz29_11 : w27.cell? ⟨gb156, 11, none⟩ = some (.bool a0_11) := (blk_cell BK156.out 11).trans rfl; have hfz29_0 := blk_frozen BK156.out 0; have hfz29_1 := blk_frozen BK156.out 1; have hfz29_2 := blk_frozen BK156.out 2; have hfz29_3 := blk_frozen BK156.out 3; have hfz29_4 := blk_frozen BK156.out 4; have hfz29_5 := blk_frozen BK156.out 5; have hfz29_6 := blk_frozen BK156.out 6; have hfz29_7 := blk_frozen BK156.out 7; have hfz29_8 := blk_frozen BK156.out 8; have hfz29_9 := blk_frozen BK156.out 9; have hfz29_10 := blk_frozen BK156.out 10; have hfz29_11 := blk_frozen BK156.out 11) | ((with_reducible refine gate_dst (N := 3) rfl ?_); refine box_event ?hg (N := 3) ?hd (cs := #[.int .i64 0, .int .i64 0, .int .i64 0, .int .i64 0, .int .i64 0, .int .i64 0, .int .i64 0, .int .i64 0, .int .i64 0, .int .i64 0, .int .i64 0, .bool false]) (t := 39) ?hr ?_; (case hd => rfl); (case hg => rfl); (case hr => first | (go_simp; done) | (go_simp; rfl)); intro gb158 hg w30 hbox hb; have n0_ := Aside0.mk (blk_below (g := gb156) (o := .cells #[.int .i64 a0_0, .int .i64 a0_1, .int .i64 a0_2, .int .i64 a0_3, .int .i64 a0_4, .int .i64 a0_5, .int .i64 a0_6, .int .i64 a0_7, .int .i64 a0_8, .int .i64 a0_9, .int .i64 a0_10, .bool a0_11] 39 (0, 0)) (by (with_reducible repeat (first | apply kN | apply kD | apply kA)); exact BK156.out) hb); have n1_ := Aside0.mk (blk_below (g := gb157) (o := .cells #[.int .i64 0, .int .i64 0, .int .i64 0, .int .i64 0, .int .i64 0, .int .i64 0, .int .i64 0, .int .i64 0, .int .i64 0, .int .i64 0, .int .i64 0, .bool false] 39 (0, 0)) (by (with_reducible repeat (first | apply kN | apply kD | apply kA)); exact BK157.out) hb); have n2_ := Aside0.mk (below_step (by repeat (first | (with_reducible first | exact HB.out | apply bA | apply bN | apply bD | refine bS ?_ GE156.out | refine bS ?_ GE157.out) | exact HB.out)) hb); have n3_ := Aside0.mk (hbox); have n4_ := Aside0.mk ((by rw [hg]; exact (below_size (by repeat (first | (with_reducible first | exact HB.out | apply bA | apply bN | apply bD | refine bS ?_ GE156.out | refine bS ?_ GE157.out) | exact HB.out))) : w.heap.size ≤ gb158)); have n5_ := Aside0.mk ((by rw [hg]; exact (below_size (by repeat (first | (with_reducible first | exact HB.out | apply bA | apply bN | apply bD | refine bS ?_ GE156.out | refine bS ?_ GE157.out) | exact HB.out))) : w.heap.size ≤ gb158)); have n6_ := Aside0.mk ((by rw [hg]; exact Nat.ne_of_lt (blk_lt (g := gb156) (o := .cells #[.int .i64 a0_0, .int .i64 a0_1, .int .i64 a0_2, .int .i64 a0_3, .int .i64 a0_4, .int .i64 a0_5, .int .i64 a0_6, .int .i64 a0_7, .int .i64 a0_8, .int .i64 a0_9, .int .i64 a0_10, .bool a0_11] 39 (0, 0)) (by (with_reducible repeat (first | apply kN | apply kD | apply kA)); exact BK156.out)) : gb156 ≠ gb158)); have n7_ := Aside0.mk ((by rw [hg]; exact Nat.ne_of_gt (blk_lt (g := gb156) (o := .cells #[.int .i64 a0_0, .int .i64 a0_1, .int .i64 a0_2, .int .i64 a0_3, .int .i64 a0_4, .int .i64 a0_5, .int .i64 a0_6, .int .i64 a0_7, .int .i64 a0_8, .int .i64 a0_9, .int .i64 a0_10, .bool a0_11] 39 (0, 0)) (by (with_reducible repeat (first | apply kN | apply kD | apply kA)); exact BK156.out)) : gb158 ≠ gb156)); have n8_ := Aside0.mk ((by rw [hg]; exact Nat.ne_of_lt (blk_lt (g := gb157) (o := .cells #[.int .i64 0, .int .i64 0, .int .i64 0, .int .i64 0, .int .i64 0, .int .i64 0, .int .i64 0, .int .i64 0, .int .i64 0, .int .i64 0, .int .i64 0, .bool false] 39 (0, 0)) (by (with_reducible repeat (first | apply kN | apply kD | apply kA)); exact BK157.out)) : gb157 ≠ gb158)); have n9_ := Aside0.mk ((by rw [hg]; exact Nat.ne_of_gt (blk_lt (g := gb157) (o := .cells #[.int .i64 0, .int .i64 0, .int .i64 0, .int .i64 0, .int .i64 0, .int .i64 0, .int .i64 0, .int .i64 0, .int .i64 0, .int .i64 0, .int .i64 0, .bool false] 39 (0, 0)) (by (with_reducible repeat (first | apply kN | apply kD | apply kA)); exact BK157.out)) : gb158 ≠ gb157)); clear BK156; clear BK157; clear HB; have BK156 := n0_; have BK157 := n1_; have HB := n2_; have BK158 := n3_; have GW158 := n4_; have GE158 := n5_; have NB156_158 := n6_; have NB158_156 := n7_; have NB157_158 := n8_; have NB158_157 := n9_; clear n0_ n1_ n2_ n3_ n4_ n5_ n6_ n7_ n8_ n9_; clear hb hbox hg; have hnb31 := NB158_156.out; have hnc31 := NB156_158.out; have hnb32 := NB158_157.out; have hnc32 := NB157_158.out; have hcz33_0 : w30.cell? ⟨gb158, 0, none⟩ = some (.int .i64 0) := (blk_cell BK158.out 0).trans rfl; have hcz33_1 : w30.cell? ⟨gb158, 1, none⟩ = some (.int .i64 0) := (blk_cell BK158.out 1).trans rfl; have hcz33_2 : w30.cell? ⟨gb158, 2, none⟩ = some (.int .i64 0) := (blk_cell BK158.out 2).trans rfl; have hcz33_3 : w30.cell? ⟨gb158, 3, none⟩ = some (.int .i64 0) := (blk_cell BK158.out 3).trans rfl; have hcz33_4 : w30.cell? ⟨gb158, 4, none⟩ = some (.int .i64 0) := (blk_cell BK158.out 4).trans rfl; have hcz33_5 : w30.cell? ⟨gb158, 5, none⟩ = some (.int .i64 0) := (blk_cell BK158.out 5).trans rfl; have hcz33_6 : w30.cell? ⟨gb158, 6, none⟩ = some (.int .i64 0) := (blk_cell BK158.out 6).trans rfl; have hcz33_7 : w30.cell? ⟨gb158, 7, none⟩ = some (.int .i64 0) := (blk_cell BK158.out 7).trans rfl; have hcz33_8 : w30.cell? ⟨gb158, 8, none⟩ = some (.int .i64 0) := (blk_cell BK158.out 8).trans rfl; have hcz33_9 : w30.cell? ⟨gb158, 9, none⟩ = some (.int .i64 0) := (blk_cell BK158.out 9).trans rfl; have hcz33_10 : w30.cell? ⟨gb158, 10, none⟩ = some (.int .i64 0) := (blk_cell BK158.out 10).trans rfl; have hcz33_11 : w30.cell? ⟨gb158, 11, none⟩ = some (.bool false) := (blk_cell BK158.out 11).trans rfl; have hfz33_0 := blk_frozen BK158.out 0; have hfz33_1 := blk_frozen BK158.out 1; have hfz33_2 := blk_frozen BK158.out 2; have hfz33_3 := blk_frozen BK158.out 3; have hfz33_4 := blk_frozen BK158.out 4; have hfz33_5 := blk_frozen BK158.out 5; have hfz33_6 := blk_frozen BK158.out 6; have hfz33_7 := blk_frozen BK158.out 7; have hfz33_8 := blk_frozen BK158.out 8; have hfz33_9 := blk_frozen BK158.out 9; have hfz33_10 := blk_frozen BK158.out 10; have hfz33_11 := blk_frozen BK158.out 11; have hcz34_0 : w30.cell? ⟨gb156, 0, none⟩ = some (.int .i64 a0_0) := (blk_cell BK156.out 0).trans rfl; have hcz34_1 : w30.cell? ⟨gb156, 1, none⟩ = some (.int .i64 a0_1) := (blk_cell BK156.out 1).trans rfl; have hcz34_2 : w30.cell? ⟨gb156, 2, none⟩ = some (.int .i64 a0_2) := (blk_cell BK156.out 2).trans rfl; have hcz34_3 : w30.cell? ⟨gb156, 3, none⟩ = some (.int .i64 a0_3) := (blk_cell BK156.out 3).trans rfl; have hcz34_4 : w30.cell? ⟨gb156, 4, none⟩ = some (.int .i64 a0_4) := (blk_cell BK156.out 4).trans rfl; have hcz34_5 : w30.cell? ⟨gb156, 5, none⟩ = some (.int .i64 a0_5) := (blk_cell BK156.out 5).trans rfl; have hcz34_6 : w30.cell? ⟨gb156, 6, none⟩ = some (.int .i64 a0_6) := (blk_cell BK156.out 6).trans rfl; have hcz34_7 : w30.cell? ⟨gb156, 7, none⟩ = some (.int .i64 a0_7) := (blk_cell BK156.out 7).trans rfl; have hcz34_8 : w30.cell? ⟨gb156, 8, none⟩ = some (.int .i64 a0_8) := (blk_cell BK156.out 8).trans rfl; have hcz34_9 : w30.cell? ⟨gb156, 9, none⟩ = some (.int .i64 a0_9) := (blk_cell BK156.out 9).trans rfl; have hcz34_10 : w30.cell? ⟨gb156, 10, none⟩ = some (.int .i64 a0_10) := (blk_cell BK156.out 10).trans rfl; have hcz34_11 : w30.cell? ⟨gb156, 11, none⟩ = some (.bool a0_11) := (blk_cell BK156.out 11).trans rfl; have hfz34_0 := blk_frozen BK156.out 0; have hfz34_1 := blk_frozen BK156.out 1; have hfz34_2 := blk_frozen BK156.out 2; have hfz34_3 := blk_frozen BK156.out 3; have hfz34_4 := blk_frozen BK156.out 4; have hfz34_5 := blk_frozen BK156.out 5; have hfz34_6 := blk_frozen BK156.out 6; have hfz34_7 := blk_frozen BK156.out 7; have hfz34_8 := blk_frozen BK156.out 8; have hfz34_9 := blk_frozen BK156.out 9; have hfz34_10 := blk_frozen BK156.out 10; have hfz34_11 := blk_frozen BK156.out 11))
  (try simp only [Act.put, List.setIfInBounds_toArray, List.set_cons_zero, List.set_cons_succ])
  go_cut [33] (fun v33 wc => ∃ (kq : Nat) (x33_24 : Bool), v33 = .bool x33_24 ∧ Aside0 (cmd_Command_Clean.j0 kq a0_0 x33_24 a0_0 a0_1 a0_2 a0_3 a0_4 a0_5 a0_6 a0_7 a0_8 a0_9 a0_10 a0_11 a0_0 0 0 0 0 0 0 0 0 0 0 false = some (r1, r2, r3, r4, r5, r6, r7, r8, r9, r10, r11, r12)) ∧ Aside0 (kq ≤ k) ∧ Aside0 (wc.heap[gb156]? = some (.cells #[.int .i64 a0_0, .int .i64 a0_1, .int .i64 a0_2, .int .i64 a0_3, .int .i64 a0_4, .int .i64 a0_5, .int .i64 a0_6, .int .i64 a0_7, .int .i64 a0_8, .int .i64 a0_9, .int .i64 a0_10, .bool a0_11] 39 (0, 0))) ∧ Aside0 (wc.heap[gb157]? = some (.cells #[.int .i64 0, .int .i64 0, .int .i64 0, .int .i64 0, .int .i64 0, .int .i64 0, .int .i64 0, .int .i64 0, .int .i64 0, .int .i64 0, .int .i64 0, .bool false] 39 (0, 0))) ∧ Aside0 (wc.heap[gb158]? = some (.cells #[.int .i64 a0_0, .int .i64 0, .int .i64 0, .int .i64 0, .int .i64 0, .int .i64 0, .int .i64 0, .int .i64 0, .int .i64 0, .int .i64 0, .int .i64 0, .bool false] 39 (0, 0))) ∧ Aside0 (Below w.heap.size w wc))
  case first =>
   have H := HC25.out
   clear HC25
   by_cases c35 : a0_0 = 2
   ·rw [if_pos c35] at H
    have c35b0 : (a0_0 == 2) = true := beq_iff_eq.mpr c35
    have c35b1 : (a0_0 != 2) = false := bne_eq_false_iff_eq.mpr c35
    clear c35
    (first | rw [c35b0] | (simp only [i64_w, i32_w]; rw [c35b0]) | skip)
    have H' := Aside0.mk H
    clear H
    go_wp2
    go_meet
    case rel => exact ⟨_, ((a0_0 == 2)), (by first | rfl | (simp; done) | (simp; unfold wrap64; omega) | (simp [*]; done)), H', ⟨by first | omega | exact Nat.le_refl _⟩, ⟨by (with_reducible repeat (first | apply kN | apply kD | apply kA)); refine blk_far ?_ NB156_158.out _; (with_reducible repeat (first | apply kN | apply kD | apply kA)); refine blk_far ?_ NB156_158.out _; (with_reducible repeat (first | apply kN | apply kD | apply kA)); refine blk_far ?_ NB156_158.out _; (with_reducible repeat (first | apply kN | apply kD | apply kA)); refine blk_far ?_ NB156_158.out _; (with_reducible repeat (first | apply kN | apply kD | apply kA)); refine blk_far ?_ NB156_158.out _; (with_reducible repeat (first | apply kN | apply kD | apply kA)); refine blk_far ?_ NB156_158.out _; (with_reducible repeat (first | apply kN | apply kD | apply kA)); refine blk_far ?_ NB156_158.out _; (with_reducible repeat (first | apply kN | apply kD | apply kA)); refine blk_far ?_ NB156_158.out _; (with_reducible repeat (first | apply kN | apply kD | apply kA)); refine blk_far ?_ NB156_158.out _; (with_reducible repeat (first | apply kN | apply kD | apply kA)); refine blk_far ?_ NB156_158.out _; (with_reducible repeat (first | apply kN | apply kD | apply kA)); refine blk_far ?_ NB156_158.out _; (with_reducible repeat (first | apply kN | apply kD | apply kA)); refine blk_far ?_ NB156_158.out _; (with_reducible repeat (first | apply kN | apply kD | apply kA)); exact BK156.out⟩, ⟨by (with_reducible repeat (first | apply kN | apply kD | apply kA)); refine blk_far ?_ NB157_158.out _; (with_reducible repeat (first | apply kN | apply kD | apply kA)); refine blk_far ?_ NB157_158.out _; (with_reducible repeat (first | apply kN | apply kD | apply kA)); refine blk_far ?_ NB157_158.out _; (with_reducible repeat (first | apply kN | apply kD | apply kA)); refine blk_far ?_ NB157_158.out _; (with_reducible repeat (first | apply kN | apply kD | apply kA)); refine blk_far ?_ NB157_158.out _; (with_reducible repeat (first | apply kN | apply kD | apply kA)); refine blk_far ?_ NB157_158.out _; (with_reducible repeat (first | apply kN | apply kD | apply kA)); refine blk_far ?_ NB157_158.out _; (with_reducible repeat (first | apply kN | apply kD | apply kA)); refine blk_far ?_ NB157_158.out _; (with_reducible repeat (first | apply kN | apply kD | apply kA)); refine blk_far ?_ NB157_158.out _; (with_reducible repeat (first | apply kN | apply kD | apply kA)); refine blk_far ?_ NB157_158.out _; (with_reducible repeat (first | apply kN | apply kD | apply kA)); refine blk_far ?_ NB157_158.out _; (with_reducible repeat (first | apply kN | apply kD | apply kA)); refine blk_far ?_ NB157_158.out _; (with_reducible repeat (first | apply kN | apply kD | apply kA)); exact BK157.out⟩, ⟨by (with_reducible repeat (first | apply kN | apply kD | apply kA)); refine blk_put (cs := #[.int .i64 a0_0, .int .i64 0, .int .i64 0, .int .i64 0, .int .i64 0, .int .i64 0, .int .i64 0, .int .i64 0, .int .i64 0, .int .i64 0, .int .i64 0, .bool false]) ?_ 11 _ rfl; (with_reducible repeat (first | apply kN | apply kD | apply kA)); refine blk_put (cs := #[.int .i64 a0_0, .int .i64 0, .int .i64 0, .int .i64 0, .int .i64 0, .int .i64 0, .int .i64 0, .int .i64 0, .int .i64 0, .int .i64 0, .int .i64 0, .bool false]) ?_ 10 _ rfl; (with_reducible repeat (first | apply kN | apply kD | apply kA)); refine blk_put (cs := #[.int .i64 a0_0, .int .i64 0, .int .i64 0, .int .i64 0, .int .i64 0, .int .i64 0, .int .i64 0, .int .i64 0, .int .i64 0, .int .i64 0, .int .i64 0, .bool false]) ?_ 9 _ rfl; (with_reducible repeat (first | apply kN | apply kD | apply kA)); refine blk_put (cs := #[.int .i64 a0_0, .int .i64 0, .int .i64 0, .int .i64 0, .int .i64 0, .int .i64 0, .int .i64 0, .int .i64 0, .int .i64 0, .int .i64 0, .int .i64 0, .bool false]) ?_ 8 _ rfl; (with_reducible repeat (first | apply kN | apply kD | apply kA)); refine blk_put (cs := #[.int .i64 a0_0, .int .i64 0, .int .i64 0, .int .i64 0, .int .i64 0, .int .i64 0, .int .i64 0, .int .i64 0, .int .i64 0, .int .i64 0, .int .i64 0, .bool false]) ?_ 7 _ rfl; (with_reducible repeat (first | apply kN | apply kD | apply kA)); refine blk_put (cs := #[.int .i64 a0_0, .int .i64 0, .int .i64 0, .int .i64 0, .int .i64 0, .int .i64 0, .int .i64 0, .int .i64 0, .int .i64 0, .int .i64 0, .int .i64 0, .bool false]) ?_ 6 _ rfl; (with_reducible repeat (first | apply kN | apply kD | apply kA)); refine blk_put (cs := #[.int .i64 a0_0, .int .i64 0, .int .i64 0, .int .i64 0, .int .i64 0, .int .i64 0, .int .i64 0, .int .i64 0, .int .i64 0, .int .i64 0, .int .i64 0, .bool false]) ?_ 5 _ rfl; (with_reducible repeat (first | apply kN | apply kD | apply kA)); refine blk_put (cs := #[.int .i64 a0_0, .int .i64 0, .int .i64 0, .int .i64 0, .int .i64 0, .int .i64 0, .int .i64 0, .int .i64 0, .int .i64 0, .int .i64 0, .int .i64 0, .bool false]) ?_ 4 _ rfl; (with_reducible repeat (first | apply kN | apply kD | apply kA)); refine blk_put (cs := #[.int .i64 a0_0, .int .i64 0, .int .i64 0, .int .i64 0, .int .i64 0, .int .i64 0, .int .i64 0, .int .i64 0, .int .i64 0, .int .i64 0, .int .i64 0, .bool false]) ?_ 3 _ rfl; (with_reducible repeat (first | apply kN | apply kD | apply kA)); refine blk_put (cs := #[.int .i64 a0_0, .int .i64 0, .int .i64 0, .int .i64 0, .int .i64 0, .int .i64 0, .int .i64 0, .int .i64 0, .int .i64 0, .int .i64 0, .int .i64 0, .bool false]) ?_ 2 _ rfl; (with_reducible repeat (first | apply kN | apply kD | apply kA)); refine blk_put (cs := #[.int .i64 a0_0, .int .i64 0, .int .i64 0, .int .i64 0, .int .i64 0, .int .i64 0, .int .i64 0, .int .i64 0, .int .i64 0, .int .i64 0, .int .i64 0, .bool false]) ?_ 1 _ rfl; (with_reducible repeat (first | apply kN | apply kD | apply kA)); refine blk_put (cs := #[.int .i64 0, .int .i64 0, .int .i64 0, .int .i64 0, .int .i64 0, .int .i64 0, .int .i64 0, .int .i64 0, .int .i64 0, .int .i64 0, .int .i64 0, .bool false]) ?_ 0 _ rfl; (with_reducible repeat (first | apply kN | apply kD | apply kA)); exact BK158.out⟩, ⟨by repeat (first | (with_reducible first | exact HB.out | apply bA | apply bN | apply bD | refine bS ?_ GE156.out | refine bS ?_ GE157.out | refine bS ?_ GE158.out) | exact HB.out)⟩⟩
   ·rw [if_neg c35] at H
    have c35b0 : (a0_0 == 2) = false := beq_eq_false_iff_ne.mpr c35
    have c35b1 : (a0_0 != 2) = true := bne_iff_ne.mpr c35
    (first | rw [c35b0] | (simp only [i64_w, i32_w]; rw [c35b0]) | skip)
    by_cases c36 : a0_0 = 3
    ·rw [if_pos c36] at H
     have c36b0 : (a0_0 == 3) = true := beq_iff_eq.mpr c36
     have c36b1 : (a0_0 != 3) = false := bne_eq_false_iff_eq.mpr c36
     clear c36
     have H' := Aside0.mk H
     clear H
     go_wp2
     go_meet
     case rel => exact ⟨_, ((a0_0 == 3)), (by first | rfl | (simp; done) | (simp; unfold wrap64; omega) | (simp [*]; done)), H', ⟨by first | omega | exact Nat.le_refl _⟩, ⟨by (with_reducible repeat (first | apply kN | apply kD | apply kA)); refine blk_far ?_ NB156_158.out _; (with_reducible repeat (first | apply kN | apply kD | apply kA)); refine blk_far ?_ NB156_158.out _; (with_reducible repeat (first | apply kN | apply kD | apply kA)); refine blk_far ?_ NB156_158.out _; (with_reducible repeat (first | apply kN | apply kD | apply kA)); refine blk_far ?_ NB156_158.out _; (with_reducible repeat (first | apply kN | apply kD | apply kA)); refine blk_far ?_ NB156_158.out _; (with_reducible repeat (first | apply kN | apply kD | apply kA)); refine blk_far ?_ NB156_158.out _; (with_reducible repeat (first | apply kN | apply kD | apply kA)); refine blk_far ?_ NB156_158.out _; (with_reducible repeat (first | apply kN | apply kD | apply kA)); refine blk_far ?_ NB156_158.out _; (with_reducible repeat (first | apply kN | apply kD | apply kA)); refine blk_far ?_ NB156_158.out _; (with_reducible repeat (first | apply kN | apply kD | apply kA)); refine blk_far ?_ NB156_158.out _; (with_reducible repeat (first | apply kN | apply kD | apply kA)); refine blk_far ?_ NB156_158.out _; (with_reducible repeat (first | apply kN | apply kD | apply kA)); refine blk_far ?_ NB156_158.out _; (with_reducible repeat (first | apply kN | apply kD | apply kA)); exact BK156.out⟩, ⟨by (with_reducible repeat (first | apply kN | apply kD | apply kA)); refine blk_far ?_ NB157_158.out _; (with_reducible repeat (first | apply kN | apply kD | apply kA)); refine blk_far ?_ NB157_158.out _; (with_reducible repeat (first | apply kN | apply kD | apply kA)); refine blk_far ?_ NB157_158.out _; (with_reducible repeat (first | apply kN | apply kD | apply kA)); refine blk_far ?_ NB157_158.out _; (with_reducible repeat (first | apply kN | apply kD | apply kA)); refine blk_far ?_ NB157_158.out _; (with_reducible repeat (first | apply kN | apply kD | apply kA)); refine blk_far ?_ NB157_158.out _; (with_reducible repeat (first | apply kN | apply kD | apply kA)); refine blk_far ?_ NB157_158.out _; (with_reducible repeat (first | apply kN | apply kD | apply kA)); refine blk_far ?_ NB157_158.out _; (with_reducible repeat (first | apply kN | apply kD | apply kA)); refine blk_far ?_ NB157_158.out _; (with_reducible repeat (first | apply kN | apply kD | apply kA)); refine blk_far ?_ NB157_158.out _; (with_reducible repeat (first | apply kN | apply kD | apply kA)); refine blk_far ?_ NB157_158.out _; (with_reducible repeat (first | apply kN | apply kD | apply kA)); refine blk_far ?_ NB157_158.out _; (with_reducible repeat (first | apply kN | apply kD | apply kA)); exact BK157.out⟩, ⟨by (with_reducible repeat (first | apply kN | apply kD | apply kA)); refine blk_put (cs := #[.int .i64 a0_0, .int .i64 0, .int .i64 0, .int .i64 0, .int .i64 0, .int .i64 0, .int .i64 0, .int .i64 0, .int .i64 0, .int .i64 0, .int .i64 0, .bool false]) ?_ 11 _ rfl; (with_reducible repeat (first | apply kN | apply kD | apply kA)); refine blk_put (cs := #[.int .i64 a0_0, .int .i64 0, .int .i64 0, .int .i64 0, .int .i64 0, .int .i64 0, .int .i64 0, .int .i64 0, .int .i64 0, .int .i64 0, .int .i64 0, .bool false]) ?_ 10 _ rfl; (with_reducible repeat (first | apply kN | apply kD | apply kA)); refine blk_put (cs := #[.int .i64 a0_0, .int .i64 0, .int .i64 0, .int .i64 0, .int .i64 0, .int .i64 0, .int .i64 0, .int .i64 0, .int .i64 0, .int .i64 0, .int .i64 0, .bool false]) ?_ 9 _ rfl; (with_reducible repeat (first | apply kN | apply kD | apply kA)); refine blk_put (cs := #[.int .i64 a0_0, .int .i64 0, .int .i64 0, .int .i64 0, .int .i64 0, .int .i64 0, .int .i64 0, .int .i64 0, .int .i64 0, .int .i64 0, .int .i64 0, .bool false]) ?_ 8 _ rfl; (with_reducible repeat (first | apply kN | apply kD | apply kA)); refine blk_put (cs := #[.int .i64 a0_0, .int .i64 0, .int .i64 0, .int .i64 0, .int .i64 0, .int .i64 0, .int .i64 0, .int .i64 0, .int .i64 0, .int .i64 0, .int .i64 0, .bool false]) ?_ 7 _ rfl; (with_reducible repeat (first | apply kN | apply kD | apply kA)); refine blk_put (cs := #[.int .i64 a0_0, .int .i64 0, .int .i64 0, .int .i64 0, .int .i64 0, .int .i64 0, .int .i64 0, .int .i64 0, .int .i64 0, .int .i64 0, .int .i64 0, .bool false]) ?_ 6 _ rfl; (with_reducible repeat (first | apply kN | apply kD | apply kA)); refine blk_put (cs := #[.int .i64 a0_0, .int .i64 0, .int .i64 0, .int .i64 0, .int .i64 0, .int .i64 0, .int .i64 0, .int .i64 0, .int .i64 0, .int .i64 0, .int .i64 0, .bool false]) ?_ 5 _ rfl; (with_reducible repeat (first | apply kN | apply kD | apply kA)); refine blk_put (cs := #[.int .i64 a0_0, .int .i64 0, .int .i64 0, .int .i64 0, .int .i64 0, .int .i64 0, .int .i64 0, .int .i64 0, .int .i64 0, .int .i64 0, .int .i64 0, .bool false]) ?_ 4 _ rfl; (with_reducible repeat (first | apply kN | apply kD | apply kA)); refine blk_put (cs := #[.int .i64 a0_0, .int .i64 0, .int .i64 0, .int .i64 0, .int .i64 0, .int .i64 0, .int .i64 0, .int .i64 0, .int .i64 0, .int .i64 0, .int .i64 0, .bool false]) ?_ 3 _ rfl; (with_reducible repeat (first | apply kN | apply kD | apply kA)); refine blk_put (cs := #[.int .i64 a0_0, .int .i64 0, .int .i64 0, .int .i64 0, .int .i64 0, .int .i64 0, .int .i64 0, .int .i64 0, .int .i64 0, .int .i64 0, .int .i64 0, .bool false]) ?_ 2 _ rfl; (with_reducible repeat (first | apply kN | apply kD | apply kA)); refine blk_put (cs := #[.int .i64 a0_0, .int .i64 0, .int .i64 0, .int .i64 0, .int .i64 0, .int .i64 0, .int .i64 0, .int .i64 0, .int .i64 0, .int .i64 0, .int .i64 0, .bool false]) ?_ 1 _ rfl; (with_reducible repeat (first | apply kN | apply kD | apply kA)); refine blk_put (cs := #[.int .i64 0, .int .i64 0, .int .i64 0, .int .i64 0, .int .i64 0, .int .i64 0, .int .i64 0, .int .i64 0, .int .i64 0, .int .i64 0, .int .i64 0, .bool false]) ?_ 0 _ rfl; (with_reducible repeat (first | apply kN | apply kD | apply kA)); exact BK158.out⟩, ⟨by repeat (first | (with_reducible first | exact HB.out | apply bA | apply bN | apply bD | refine bS ?_ GE156.out | refine bS ?_ GE157.out | refine bS ?_ GE158.out) | exact HB.out)⟩⟩
    ·rw [if_neg c36] at H
     have c36b0 : (a0_0 == 3) = false := beq_eq_false_iff_ne.mpr c36
     have c36b1 : (a0_0 != 3) = true := bne_iff_ne.mpr c36
     by_cases c37 : a0_0 = 4
     ·rw [if_pos c37] at H
      have c37b0 : (a0_0 == 4) = true := beq_iff_eq.mpr c37
      have c37b1 : (a0_0 != 4) = false := bne_eq_false_iff_eq.mpr c37
      clear c37
      have H' := Aside0.mk H
      clear H
      go_wp2
      go_meet
      case rel => exact ⟨_, ((a0_0 == 4)), (by first | rfl | (simp; done) | (simp; unfold wrap64; omega) | (simp [*]; done)), H', ⟨by first | omega | exact Nat.le_refl _⟩, ⟨by (with_reducible repeat (first | apply kN | apply kD | apply kA)); refine blk_far ?_ NB156_158.out _; (with_reducible repeat (first | apply kN | apply kD | apply kA)); refine blk_far ?_ NB156_158.out _; (with_reducible repeat (first | apply kN | apply kD | apply kA)); refine blk_far ?_ NB156_158.out _; (with_reducible repeat (first | apply kN | apply kD | apply kA)); refine blk_far ?_ NB156_158.out _; (with_reducible repeat (first | apply kN | apply kD | apply kA)); refine blk_far ?_ NB156_158.out _; (with_reducible repeat (first | apply kN | apply kD | apply kA)); refine blk_far ?_ NB156_158.out _; (with_reducible repeat (first | apply kN | apply kD | apply kA)); refine blk_far ?_ NB156_158.out _; (with_reducible repeat (first | apply kN | apply kD | apply kA)); refine blk_far ?_ NB156_158.out _; (with_reducible repeat (first | apply kN | apply kD | apply kA)); refine blk_far ?_ NB156_158.out _; (with_reducible repeat (first | apply kN | apply kD | apply kA)); refine blk_far ?_ NB156_158.out _; (with_reducible repeat (first | apply kN | apply kD | apply kA)); refine blk_far ?_ NB156_158.out _; (with_reducible repeat (first | apply kN | apply kD | apply kA)); refine blk_far ?_ NB156_158.out _; (with_reducible repeat (first | apply kN | apply kD | apply kA)); exact BK156.out⟩, ⟨by (with_reducible repeat (first | apply kN | apply kD | apply kA)); refine blk_far ?_ NB157_158.out _; (with_reducible repeat (first | apply kN | apply kD | apply kA)); refine blk_far ?_ NB157_158.out _; (with_reducible repeat (first | apply kN | apply kD | apply kA)); refine blk_far ?_ NB157_158.out _; (with_reducible repeat (first | apply kN | apply kD | apply kA)); refine blk_far ?_ NB157_158.out _; (with_reducible repeat (first | apply kN | apply kD | apply kA)); refine blk_far ?_ NB157_158.out _; (with_reducible repeat (first | apply kN | apply kD | apply kA)); refine blk_far ?_ NB157_158.out _; (with_reducible repeat (first | apply kN | apply kD | apply kA)); refine blk_far ?_ NB157_158.out _; (with_reducible repeat (first | apply kN | apply kD | apply kA)); refine blk_far ?_ NB157_158.out _; (with_reducible repeat (first | apply kN | apply kD | apply kA)); refine blk_far ?_ NB157_158.out _; (with_reducible repeat (first | apply kN | apply kD | apply kA)); refine blk_far ?_ NB157_158.out _; (with_reducible repeat (first | apply kN | apply kD | apply kA)); refine blk_far ?_ NB157_158.out _; (with_reducible repeat (first | apply kN | apply kD | apply kA)); refine blk_far ?_ NB157_158.out _; (with_reducible repeat (first | apply kN | apply kD | apply kA)); exact BK157.out⟩, ⟨by (with_reducible repeat (first | apply kN | apply kD | apply kA)); refine blk_put (cs := #[.int .i64 a0_0, .int .i64 0, .int .i64 0, .int .i64 0, .int .i64 0, .int .i64 0, .int .i64 0, .int .i64 0, .int .i64 0, .int .i64 0, .int .i64 0, .bool false]) ?_ 11 _ rfl; (with_reducible repeat (first | apply kN | apply kD | apply kA)); refine blk_put (cs := #[.int .i64 a0_0, .int .i64 0, .int .i64 0, .int .i64 0, .int .i64 0, .int .i64 0, .int .i64 0, .int .i64 0, .int .i64 0, .int .i64 0, .int .i64 0, .bool false]) ?_ 10 _ rfl; (with_reducible repeat (first | apply kN | apply kD | apply kA)); refine blk_put (cs := #[.int .i64 a0_0, .int .i64 0, .int .i64 0, .int .i64 0, .int .i64 0, .int .i64 0, .int .i64 0, .int .i64 0, .int .i64 0, .int .i64 0, .int .i64 0, .bool false]) ?_ 9 _ rfl; (with_reducible repeat (first | apply kN | apply kD | apply kA)); refine blk_put (cs := #[.int .i64 a0_0, .int .i64 0, .int .i64 0, .int .i64 0, .int .i64 0, .int .i64 0, .int .i64 0, .int .i64 0, .int .i64 0, .int .i64 0, .int .i64 0, .bool false]) ?_ 8 _ rfl; (with_reducible repeat (first | apply kN | apply kD | apply kA)); refine blk_put (cs := #[.int .i64 a0_0, .int .i64 0, .int .i64 0, .int .i64 0, .int .i64 0, .int .i64 0, .int .i64 0, .int .i64 0, .int .i64 0, .int .i64 0, .int .i64 0, .bool false]) ?_ 7 _ rfl; (with_reducible repeat (first | apply kN | apply kD | apply kA)); refine blk_put (cs := #[.int .i64 a0_0, .int .i64 0, .int .i64 0, .int .i64 0, .int .i64 0, .int .i64 0, .int .i64 0, .int .i64 0, .int .i64 0, .int .i64 0, .int .i64 0, .bool false]) ?_ 6 _ rfl; (with_reducible repeat (first | apply kN | apply kD | apply kA)); refine blk_put (cs := #[.int .i64 a0_0, .int .i64 0, .int .i64 0, .int .i64 0, .int .i64 0, .int .i64 0, .int .i64 0, .int .i64 0, .int .i64 0, .int .i64 0, .int .i64 0, .bool false]) ?_ 5 _ rfl; (with_reducible repeat (first | apply kN | apply kD | apply kA)); refine blk_put (cs := #[.int .i64 a0_0, .int .i64 0, .int .i64 0, .int .i64 0, .int .i64 0, .int .i64 0, .int .i64 0, .int .i64 0, .int .i64 0, .int .i64 0, .int .i64 0, .bool false]) ?_ 4 _ rfl; (with_reducible repeat (first | apply kN | apply kD | apply kA)); refine blk_put (cs := #[.int .i64 a0_0, .int .i64 0, .int .i64 0, .int .i64 0, .int .i64 0, .int .i64 0, .int .i64 0, .int .i64 0, .int .i64 0, .int .i64 0, .int .i64 0, .bool false]) ?_ 3 _ rfl; (with_reducible repeat (first | apply kN | apply kD | apply kA)); refine blk_put (cs := #[.int .i64 a0_0, .int .i64 0, .int .i64 0, .int .i64 0, .int .i64 0, .int .i64 0, .int .i64 0, .int .i64 0, .int .i64 0, .int .i64 0, .int .i64 0, .bool false]) ?_ 2 _ rfl; (with_reducible repeat (first | apply kN | apply kD | apply kA)); refine blk_put (cs := #[.int .i64 a0_0, .int .i64 0, .int .i64 0, .int .i64 0, .int .i64 0, .int .i64 0, .int .i64 0, .int .i64 0, .int .i64 0, .int .i64 0, .int .i64 0, .bool false]) ?_ 1 _ rfl; (with_reducible repeat (first | apply kN | apply kD | apply kA)); refine blk_put (cs := #[.int .i64 0, .int .i64 0, .int .i64 0, .int .i64 0, .int .i64 0, .int .i64 0, .int .i64 0, .int .i64 0, .int .i64 0, .int .i64 0, .int .i64 0, .bool false]) ?_ 0 _ rfl; (with_reducible repeat (first | apply kN | apply kD | apply kA)); exact BK158.out⟩, ⟨by repeat (first | (with_reducible first | exact HB.out | apply bA | apply bN | apply bD | refine bS ?_ GE156.out | refine bS ?_ GE157.out | refine bS ?_ GE158.out) | exact HB.out)⟩⟩
     ·rw [if_neg c37] at H
      have c37b0 : (a0_0 == 4) = false := beq_eq_false_iff_ne.mpr c37
      have c37b1 : (a0_0 != 4) = true := bne_iff_ne.mpr c37
      have H' := Aside0.mk H
      clear H
      go_wp2
      go_meet
      case rel => exact ⟨_, ((a0_0 == 12)), (by first | rfl | (simp; done) | (simp; unfold wrap64; omega) | (simp [*]; done)), H', ⟨by first | omega | exact Nat.le_refl _⟩, ⟨by (with_reducible repeat (first | apply kN | apply kD | apply kA)); refine blk_far ?_ NB156_158.out _; (with_reducible repeat (first | apply kN | apply kD | apply kA)); refine blk_far ?_ NB156_158.out _; (with_reducible repeat (first | apply kN | apply kD | apply kA)); refine blk_far ?_ NB156_158.out _; (with_reducible repeat (first | apply kN | apply kD | apply kA)); refine blk_far ?_ NB156_158.out _; (with_reducible repeat (first | apply kN | apply kD | apply kA)); refine blk_far ?_ NB156_158.out _; (with_reducible repeat (first | apply kN | apply kD | apply kA)); refine blk_far ?_ NB156_158.out _; (with_reducible repeat (first | apply kN | apply kD | apply kA)); refine blk_far ?_ NB156_158.out _; (with_reducible repeat (first | apply kN | apply kD | apply kA)); refine blk_far ?_ NB156_158.out _; (with_reducible repeat (first | apply kN | apply kD | apply kA)); refine blk_far ?_ NB156_158.out _; (with_reducible repeat (first | apply kN | apply kD | apply kA)); refine blk_far ?_ NB156_158.out _; (with_reducible repeat (first | apply kN | apply kD | apply kA)); refine blk_far ?_ NB156_158.out _; (with_reducible repeat (first | apply kN | apply kD | apply kA)); refine blk_far ?_ NB156_158.out _; (with_reducible repeat (first | apply kN | apply kD | apply kA)); exact BK156.out⟩, ⟨by (with_reducible repeat (first | apply kN | apply kD | apply kA)); refine blk_far ?_ NB157_158.out _; (with_reducible repeat (first | apply kN | apply kD | apply kA)); refine blk_far ?_ NB157_158.out _; (with_reducible repeat (first | apply kN | apply kD | apply kA)); refine blk_far ?_ NB157_158.out _; (with_reducible repeat (first | apply kN | apply kD | apply kA)); refine blk_far ?_ NB157_158.out _; (with_reducible repeat (first | apply kN | apply kD | apply kA)); refine blk_far ?_ NB157_158.out _; (with_reducible repeat (first | apply kN | apply kD | apply kA)); refine blk_far ?_ NB157_158.out _; (with_reducible repeat (first | apply kN | apply kD | apply kA)); refine blk_far ?_ NB157_158.out _; (with_reducible repeat (first | apply kN | apply kD | apply kA)); refine blk_far ?_ NB157_158.out _; (with_reducible repeat (first | apply kN | apply kD | apply kA)); refine blk_far ?_ NB157_158.out _; (with_reducible repeat (first | apply kN | apply kD | apply kA)); refine blk_far ?_ NB157_158.out _; (with_reducible repeat (first | apply kN | apply kD | apply kA)); refine blk_far ?_ NB157_158.out _; (with_reducible repeat (first | apply kN | apply kD | apply kA)); refine blk_far ?_ NB157_158.out _; (with_reducible repeat (first | apply kN | apply kD | apply kA)); exact BK157.out⟩, ⟨by (with_reducible repeat (first | apply kN | apply kD | apply kA)); refine blk_put (cs := #[.int .i64 a0_0, .int .i64 0, .int .i64 0, .int .i64 0, .int .i64 0, .int .i64 0, .int .i64 0, .int .i64 0, .int .i64 0, .int .i64 0, .int .i64 0, .bool false]) ?_ 11 _ rfl; (with_reducible repeat (first | apply kN | apply kD | apply kA)); refine blk_put (cs := #[.int .i64 a0_0, .int .i64 0, .int .i64 0, .int .i64 0, .int .i64 0, .int .i64 0, .int .i64 0, .int .i64 0, .int .i64 0, .int .i64 0, .int .i64 0, .bool false]) ?_ 10 _ rfl; (with_reducible repeat (first | apply kN | apply kD | apply kA)); refine blk_put (cs := #[.int .i64 a0_0, .int .i64 0, .int .i64 0, .int .i64 0, .int .i64 0, .int .i64 0, .int .i64 0, .int .i64 0, .int .i64 0, .int .i64 0, .int .i64 0, .bool false]) ?_ 9 _ rfl; (with_reducible repeat (first | apply kN | apply kD | apply kA)); refine blk_put (cs := #[.int .i64 a0_0, .int .i64 0, .int .i64 0, .int .i64 0, .int .i64 0, .int .i64 0, .int .i64 0, .int .i64 0, .int .i64 0, .int .i64 0, .int .i64 0, .bool false]) ?_ 8 _ rfl; (with_reducible repeat (first | apply kN | apply kD | apply kA)); refine blk_put (cs := #[.int .i64 a0_0, .int .i64 0, .int .i64 0, .int .i64 0, .int .i64 0, .int .i64 0, .int .i64 0, .int .i64 0, .int .i64 0, .int .i64 0, .int .i64 0, .bool false]) ?_ 7 _ rfl; (with_reducible repeat (first | apply kN | apply kD | apply kA)); refine blk_put (cs := #[.int .i64 a0_0, .int .i64 0, .int .i64 0, .int .i64 0, .int .i64 0, .int .i64 0, .int .i64 0, .int .i64 0, .int .i64 0, .int .i64 0, .int .i64 0, .bool false]) ?_ 6 _ rfl; (with_reducible repeat (first | apply kN | apply kD | apply kA)); refine blk_put (cs := #[.int .i64 a0_0, .int .i64 0, .int .i64 0, .int .i64 0, .int .i64 0, .int .i64 0, .int .i64 0, .int .i64 0, .int .i64 0, .int .i64 0, .int .i64 0, .bool false]) ?_ 5 _ rfl; (with_reducible repeat (first | apply kN | apply kD | apply kA)); refine blk_put (cs := #[.int .i64 a0_0, .int .i64 0, .int .i64 0, .int .i64 0, .int .i64 0, .int .i64 0, .int .i64 0, .int .i64 0, .int .i64 0, .int .i64 0, .int .i64 0, .bool false]) ?_ 4 _ rfl; (with_reducible repeat (first | apply kN | apply kD | apply kA)); refine blk_put (cs := #[.int .i64 a0_0, .int .i64 0, .int .i64 0, .int .i64 0, .int .i64 0, .int .i64 0, .int .i64 0, .int .i64 0, .int .i64 0, .int .i64 0, .int .i64 0, .bool false]) ?_ 3 _ rfl; (with_reducible repeat (first | apply kN | apply kD | apply kA)); refine blk_put (cs := #[.int .i64 a0_0, .int .i64 0, .int .i64 0, .int .i64 0, .int .i64 0, .int .i64 0, .int .i64 0, .int .i64 0, .int .i64 0, .int .i64 0, .int .i64 0, .bool false]) ?_ 2 _ rfl; (with_reducible repeat (first | apply kN | apply kD | apply kA)); refine blk_put (cs := #[.int .i64 a0_0, .int .i64 0, .int .i64 0, .int .i64 0, .int .i64 0, .int .i64 0, .int .i64 0, .int .i64 0, .int .i64 0, .int .i64 0, .int .i64 0, .bool false]) ?_ 1 _ rfl; (with_reducible repeat (first | apply kN | apply kD | apply kA)); refine blk_put (cs := #[.int .i64 0, .int .i64 0, .int .i64 0, .int .i64 0, .int .i64 0, .int .i64 0, .int .i64 0, .int .i64 0, .int .i64 0, .int .i64 0, .int .i64 0, .bool false]) ?_ 0 _ rfl; (with_reducible repeat (first | apply kN | apply kD | apply kA)); exact BK158.out⟩, ⟨by repeat (first | (with_reducible first | exact HB.out | apply bA | apply bN | apply bD | refine bS ?_ GE156.out | refine bS ?_ GE157.out | refine bS ?_ GE158.out) | exact HB.out)⟩⟩
  case rest =>
   clear HC25
   try clear c2
   try clear c2b0
   try clear c2b1
   try clear p2
   try clear c3
   try clear c5
   try clear p6
   try clear c8
   try clear c9
   try clear c26
   try clear c28
   try clear c31
   try clear c32
   try clear c35
   try clear c35b0
   try clear c35b1
   try clear c36
   try clear c36b0
   try clear c36b1
   try clear c37
   try clear c37b0
   try clear c37b1
   try clear hcz10_0
   try clear hcz10_1
   try clear hcz10_10
   try clear hcz10_11
   try clear hcz10_2
   try clear hcz10_3
   try clear hcz10_4
   try clear hcz10_5
   try clear hcz10_6
   try clear hcz10_7
   try clear hcz10_8
   try clear hcz10_9
   try clear hcz11_0
   try clear hcz11_1
   try clear hcz11_10
   try clear hcz11_11
   try clear hcz11_2
   try clear hcz11_3
   try clear hcz11_4
   try clear hcz11_5
   try clear hcz11_6
   try clear hcz11_7
   try clear hcz11_8
   try clear hcz11_9
   try clear hcz23_0
   try clear hcz23_1
   try clear hcz23_10
   try clear hcz23_11
   try clear hcz23_2
   try clear hcz23_3
   try clear hcz23_4
   try clear hcz23_5
   try clear hcz23_6
   try clear hcz23_7
   try clear hcz23_8
   try clear hcz23_9
   try clear hcz24_0
   try clear hcz24_1
   try clear hcz24_10
   try clear hcz24_11
   try clear hcz24_2
   try clear hcz24_3
   try clear hcz24_4
   try clear hcz24_5
   try clear hcz24_6
   try clear hcz24_7
   try clear hcz24_8
   try clear hcz24_9
   try clear hcz29_0
   try clear hcz29_1
   try clear hcz29_10
   try clear hcz29_11
   try clear hcz29_2
   try clear hcz29_3
   try clear hcz29_4
   try clear hcz29_5
   try clear hcz29_6
   try clear hcz29_7
   try clear hcz29_8
   try clear hcz29_9
   try clear hcz33_0
   try clear hcz33_1
   try clear hcz33_10
   try clear hcz33_11
   try clear hcz33_2
   try clear hcz33_3
   try clear hcz33_4
   try clear hcz33_5
   try clear hcz33_6
   try clear hcz33_7
   try clear hcz33_8
   try clear hcz33_9
   try clear hcz34_0
   try clear hcz34_1
   try clear hcz34_10
   try clear hcz34_11
   try clear hcz34_2
   try clear hcz34_3
   try clear hcz34_4
   try clear hcz34_5
   try clear hcz34_6
   try clear hcz34_7
   try clear hcz34_8
   try clear hcz34_9
   try clear hcz6_0
   try clear hcz6_1
   try clear hcz6_10
   try clear hcz6_11
   try clear hcz6_2
   try clear hcz6_3
   try clear hcz6_4
   try clear hcz6_5
   try clear hcz6_6
   try clear hcz6_7
   try clear hcz6_8
   try clear hcz6_9
   try clear hfz10_0
   try clear hfz10_1
   try clear hfz10_10
   try clear hfz10_11
   try clear hfz10_2
   try clear hfz10_3
   try clear hfz10_4
   try clear hfz10_5
   try clear hfz10_6
   try clear hfz10_7
   try clear hfz10_8
   try clear hfz10_9
   try clear hfz11_0
   try clear hfz11_1
   try clear hfz11_10
   try clear hfz11_11
   try clear hfz11_2
   try clear hfz11_3
   try clear hfz11_4
   try clear hfz11_5
   try clear hfz11_6
   try clear hfz11_7
   try clear hfz11_8
   try clear hfz11_9
   try clear hfz23_0
   try clear hfz23_1
   try clear hfz23_10
   try clear hfz23_11
   try clear hfz23_2
   try clear hfz23_3
   try clear hfz23_4
   try clear hfz23_5
   try clear hfz23_6
   try clear hfz23_7
   try clear hfz23_8
   try clear hfz23_9
   try clear hfz24_0
   try clear hfz24_1
   try clear hfz24_10
   try clear hfz24_11
   try clear hfz24_2
   try clear hfz24_3
   try clear hfz24_4
   try clear hfz24_5
   try clear hfz24_6
   try clear hfz24_7
   try clear hfz24_8
   try clear hfz24_9
   try clear hfz29_0
   try clear hfz29_1
   try clear hfz29_10
   try clear hfz29_11
   try clear hfz29_2
   try clear hfz29_3
   try clear hfz29_4
   try clear hfz29_5
   try clear hfz29_6
   try clear hfz29_7
   try clear hfz29_8
   try clear hfz29_9
   try clear hfz33_0
   try clear hfz33_1
   try clear hfz33_10
   try clear hfz33_11
   try clear hfz33_2
   try clear hfz33_3
   try clear hfz33_4
   try clear hfz33_5
   try clear hfz33_6
   try clear hfz33_7
   try clear hfz33_8
   try clear hfz33_9
   try clear hfz34_0
   try clear hfz34_1
   try clear hfz34_10
   try clear hfz34_11
   try clear hfz34_2
   try clear hfz34_3
   try clear hfz34_4
   try clear hfz34_5
   try clear hfz34_6
   try clear hfz34_7
   try clear hfz34_8
   try clear hfz34_9
   try clear hfz6_0
   try clear hfz6_1
   try clear hfz6_10
   try clear hfz6_11
   try clear hfz6_2
   try clear hfz6_3
   try clear hfz6_4
   try clear hfz6_5
   try clear hfz6_6
   try clear hfz6_7
   try clear hfz6_8
   try clear hfz6_9
   obtain ⟨kq, x33_24, rfl, HA, HJ24, BK156, BK157, BK158, HB⟩ := hcut
   cases kq with
   | zero => exact absurd HA.out (by simp [cmd_Command_Clean.j0])
   | succ kj24 =>
    have H := HA.out
    clear HA
    simp only [cmd_Command_Clean.j0] at H
    by_cases c38 : x33_24 = true
    ·subst c38
     have H1 : (some (a0_0, a0_1, 0, 0, 0, 0, 0, 0, 0, 0, 0, false)) = some (r1, r2, r3, r4, r5, r6, r7, r8, r9, r10, r11, r12) := by rw [if_pos rfl] at H; exact H
     clear H
     have H := H1
     clear H1
     simp only [Option.some.injEq, Prod.mk.injEq] at H
     obtain ⟨rfl, rfl, rfl, rfl, rfl, rfl, rfl, rfl, rfl, rfl, rfl, rfl⟩ := H
     have hnb39 := NB156_157.out
     have hnc39 := NB157_156.out
     have hnb40 := NB156_158.out
     have hnc40 := NB158_156.out
     have hcz41_0 : wc.cell? ⟨gb156, 0, none⟩ = some (.int .i64 a0_0) := (blk_cell BK156.out 0).trans rfl
     have hcz41_1 : wc.cell? ⟨gb156, 1, none⟩ = some (.int .i64 a0_1) := (blk_cell BK156.out 1).trans rfl
     have hcz41_2 : wc.cell? ⟨gb156, 2, none⟩ = some (.int .i64 a0_2) := (blk_cell BK156.out 2).trans rfl
     have hcz41_3 : wc.cell? ⟨gb156, 3, none⟩ = some (.int .i64 a0_3) := (blk_cell BK156.out 3).trans rfl
     have hcz41_4 : wc.cell? ⟨gb156, 4, none⟩ = some (.int .i64 a0_4) := (blk_cell BK156.out 4).trans rfl
     have hcz41_5 : wc.cell? ⟨gb156, 5, none⟩ = some (.int .i64 a0_5) := (blk_cell BK156.out 5).trans rfl
     have hcz41_6 : wc.cell? ⟨gb156, 6, none⟩ = some (.int .i64 a0_6) := (blk_cell BK156.out 6).trans rfl
     have hcz41_7 : wc.cell? ⟨gb156, 7, none⟩ = some (.int .i64 a0_7) := (blk_cell BK156.out 7).trans rfl
     have hcz41_8 : wc.cell? ⟨gb156, 8, none⟩ = some (.int .i64 a0_8) := (blk_cell BK156.out 8).trans rfl
     have hcz41_9 : wc.cell? ⟨gb156, 9, none⟩ = some (.int .i64 a0_9) := (blk_cell BK156.out 9).trans rfl
     have hcz41_10 : wc.cell? ⟨gb156, 10, none⟩ = some (.int .i64 a0_10) := (blk_cell BK156.out 10).trans rfl
     have hcz41_11 : wc.cell? ⟨gb156, 11, none⟩ = some (.bool a0_11) := (blk_cell BK156.out 11).trans rfl
     have hfz41_0 := blk_frozen BK156.out 0
     have hfz41_1 := blk_frozen BK156.out 1
     have hfz41_2 := blk_frozen BK156.out 2
     have hfz41_3 := blk_frozen BK156.out 3
     have hfz41_4 := blk_frozen BK156.out 4
     have hfz41_5 := blk_frozen BK156.out 5
     have hfz41_6 := blk_frozen BK156.out 6
     have hfz41_7 := blk_frozen BK156.out 7
     have hfz41_8 := blk_frozen BK156.out 8
     have hfz41_9 := blk_frozen BK156.out 9
     have hfz41_10 := blk_frozen BK156.out 10
     have hfz41_11 := blk_frozen BK156.out 11
     have hnb42 := NB158_157.out
     have hnc42 := NB157_158.out
     have hcz43_0 : wc.cell? ⟨gb158, 0, none⟩ = some (.int .i64 a0_0) := (blk_cell BK158.out 0).trans rfl
     have hcz43_1 : wc.cell? ⟨gb158, 1, none⟩ = some (.int .i64 0) := (blk_cell BK158.out 1).trans rfl
     have hcz43_2 : wc.cell? ⟨gb158, 2, none⟩ = some (.int .i64 0) := (blk_cell BK158.out 2).trans rfl
     have hcz43_3 : wc.cell? ⟨gb158, 3, none⟩ = some (.int .i64 0) := (blk_cell BK158.out 3).trans rfl
     have hcz43_4 : wc.cell? ⟨gb158, 4, none⟩ = some (.int .i64 0) := (blk_cell BK158.out 4).trans rfl
     have hcz43_5 : wc.cell? ⟨gb158, 5, none⟩ = some (.int .i64 0) := (blk_cell BK158.out 5).trans rfl
     have hcz43_6 : wc.cell? ⟨gb158, 6, none⟩ = some (.int .i64 0) := (blk_cell BK158.out 6).trans rfl
     have hcz43_7 : wc.cell? ⟨gb158, 7, none⟩ = some (.int .i64 0) := (blk_cell BK158.out 7).trans rfl
     have hcz43_8 : wc.cell? ⟨gb158, 8, none⟩ = some (.int .i64 0) := (blk_cell BK158.out 8).trans rfl
     have hcz43_9 : wc.cell? ⟨gb158, 9, none⟩ = some (.int .i64 0) := (blk_cell BK158.out 9).trans rfl
     have hcz43_10 : wc.cell? ⟨gb158, 10, none⟩ = some (.int .i64 0) := (blk_cell BK158.out 10).trans rfl
     have hcz43_11 : wc.cell? ⟨gb158, 11, none⟩ = some (.bool false) := (blk_cell BK158.out 11).trans rfl
     have hfz43_0 := blk_frozen BK158.out 0
     have hfz43_1 := blk_frozen BK158.out 1
     have hfz43_2 := blk_frozen BK158.out 2
     have hfz43_3 := blk_frozen BK158.out 3
     have hfz43_4 := blk_frozen BK158.out 4
     have hfz43_5 := blk_frozen BK158.out 5
     have hfz43_6 := blk_frozen BK158.out 6
     have hfz43_7 := blk_frozen BK158.out 7
     have hfz43_8 := blk_frozen BK158.out 8
     have hfz43_9 := blk_frozen BK158.out 9
     have hfz43_10 := blk_frozen BK158.out 10
     have hfz43_11 := blk_frozen BK158.out 11
     have hcz44_0 : wc.cell? ⟨gb157, 0, none⟩ = some (.int .i64 0) := (blk_cell BK157.out 0).trans rfl
     have hcz44_1 : wc.cell? ⟨gb157, 1, none⟩ = some (.int .i64 0) := (blk_cell BK157.out 1).trans rfl
     have hcz44_2 : wc.cell? ⟨gb157, 2, none⟩ = some (.int .i64 0) := (blk_cell BK157.out 2).trans rfl
     have hcz44_3 : wc.cell? ⟨gb157, 3, none⟩ = some (.int .i64 0) := (blk_cell BK157.out 3).trans rfl
     have hcz44_4 : wc.cell? ⟨gb157, 4, none⟩ = some (.int .i64 0) := (blk_cell BK157.out 4).trans rfl
     have hcz44_5 : wc.cell? ⟨gb157, 5, none⟩ = some (.int .i64 0) := (blk_cell BK157.out 5).trans rfl
     have hcz44_6 : wc.cell? ⟨gb157, 6, none⟩ = some (.int .i64 0) := (blk_cell BK157.out 6).trans rfl
     have hcz44_7 : wc.cell? ⟨gb157, 7, none⟩ = some (.int .i64 0) := (blk_cell BK157.out 7).trans rfl
     have hcz44_8 : wc.cell? ⟨gb157, 8, none⟩ = some (.int .i64 0) := (blk_cell BK157.out 8).trans rfl
     have hcz44_9 : wc.cell? ⟨gb157, 9, none⟩ = some (.int .i64 0) := (blk_cell BK157.out 9).trans rfl
     have hcz44_10 : wc.cell? ⟨gb157, 10, none⟩ = some (.int .i64 0) := (blk_cell BK157.out 10).trans rfl
     have hcz44_11 : wc.cell? ⟨gb157, 11, none⟩ = some (.bool false) := (blk_cell BK157.out 11).trans rfl
     have hfz44_0 := blk_frozen BK157.out 0
     have hfz44_1 := blk_frozen BK157.out 1
     have hfz44_2 := blk_frozen BK157.out 2
     have hfz44_3 := blk_frozen BK157.out 3
     have hfz44_4 := blk_frozen BK157.out 4
     have hfz44_5 := blk_frozen BK157.out 5
     have hfz44_6 := blk_frozen BK157.out 6
     have hfz44_7 := blk_frozen BK157.out 7
     have hfz44_8 := blk_frozen BK157.out 8
     have hfz44_9 := blk_frozen BK157.out 9
     have hfz44_10 := blk_frozen BK157.out 10
     have hfz44_11 := blk_frozen BK157.out 11
     go_wp2
     refine bodyPost_ret (results_cell_row rfl _ _ gb157 39 #[.int .i64 a0_0, .int .i64 a0_1, .int .i64 0, .int .i64 0, .int .i64 0, .int .i64 0, .int .i64 0, .int .i64 0, .int .i64 0, .int .i64 0, .int .i64 0, .bool false] (0, 0) _ rfl (by (with_reducible repeat (first | apply kN | apply kD | apply kA)); refine blk_put (cs := #[.int .i64 a0_0, .int .i64 a0_1, .int .i64 0, .int .i64 0, .int .i64 0, .int .i64 0, .int .i64 0, .int .i64 0, .int .i64 0, .int .i64 0, .int .i64 0, .bool false]) ?_ 11 _ rfl; (with_reducible repeat (first | apply kN | apply kD | apply kA)); refine blk_put (cs := #[.int .i64 a0_0, .int .i64 a0_1, .int .i64 0, .int .i64 0, .int .i64 0, .int .i64 0, .int .i64 0, .int .i64 0, .int .i64 0, .int .i64 0, .int .i64 0, .bool false]) ?_ 10 _ rfl; (with_reducible repeat (first | apply kN | apply kD | apply kA)); refine blk_put (cs := #[.int .i64 a0_0, .int .i64 a0_1, .int .i64 0, .int .i64 0, .int .i64 0, .int .i64 0, .int .i64 0, .int .i64 0, .int .i64 0, .int .i64 0, .int .i64 0, .bool false]) ?_ 9 _ rfl; (with_reducible repeat (first | apply kN | apply kD | apply kA)); refine blk_put (cs := #[.int .i64 a0_0, .int .i64 a0_1, .int .i64 0, .int .i64 0, .int .i64 0, .int .i64 0, .int .i64 0, .int .i64 0, .int .i64 0, .int .i64 0, .int .i64 0, .bool false]) ?_ 8 _ rfl; (with_reducible repeat (first | apply kN | apply kD | apply kA)); refine blk_put (cs := #[.int .i64 a0_0, .int .i64 a0_1, .int .i64 0, .int .i64 0, .int .i64 0, .int .i64 0, .int .i64 0, .int .i64 0, .int .i64 0, .int .i64 0, .int .i64 0, .bool false]) ?_ 7 _ rfl; (with_reducible repeat (first | apply kN | apply kD | apply kA)); refine blk_put (cs := #[.int .i64 a0_0, .int .i64 a0_1, .int .i64 0, .int .i64 0, .int .i64 0, .int .i64 0, .int .i64 0, .int .i64 0, .int .i64 0, .int .i64 0, .int .i64 0, .bool false]) ?_ 6 _ rfl; (with_reducible repeat (first | apply kN | apply kD | apply kA)); refine blk_put (cs := #[.int .i64 a0_0, .int .i64 a0_1, .int .i64 0, .int .i64 0, .int .i64 0, .int .i64 0, .int .i64 0, .int .i64 0, .int .i64 0, .int .i64 0, .int .i64 0, .bool false]) ?_ 5 _ rfl; (with_reducible repeat (first | apply kN | apply kD | apply kA)); refine blk_put (cs := #[.int .i64 a0_0, .int .i64 a0_1, .int .i64 0, .int .i64 0, .int .i64 0, .int .i64 0, .int .i64 0, .int .i64 0, .int .i64 0, .int .i64 0, .int .i64 0, .bool false]) ?_ 4 _ rfl; (with_reducible repeat (first | apply kN | apply kD | apply kA)); refine blk_put (cs := #[.int .i64 a0_0, .int .i64 a0_1, .int .i64 0, .int .i64 0, .int .i64 0, .int .i64 0, .int .i64 0, .int .i64 0, .int .i64 0, .int .i64 0, .int .i64 0, .bool false]) ?_ 3 _ rfl; (with_reducible repeat (first | apply kN | apply kD | apply kA)); refine blk_put (cs := #[.int .i64 a0_0, .int .i64 a0_1, .int .i64 0, .int .i64 0, .int .i64 0, .int .i64 0, .int .i64 0, .int .i64 0, .int .i64 0, .int .i64 0, .int .i64 0, .bool false]) ?_ 2 _ rfl; (with_reducible repeat (first | apply kN | apply kD | apply kA)); refine blk_put (cs := #[.int .i64 a0_0, .int .i64 0, .int .i64 0, .int .i64 0, .int .i64 0, .int .i64 0, .int .i64 0, .int .i64 0, .int .i64 0, .int .i64 0, .int .i64 0, .bool false]) ?_ 1 _ rfl; (with_reducible repeat (first | apply kN | apply kD | apply kA)); refine blk_put (cs := #[.int .i64 0, .int .i64 0, .int .i64 0, .int .i64 0, .int .i64 0, .int .i64 0, .int .i64 0, .int .i64 0, .int .i64 0, .int .i64 0, .int .i64 0, .bool false]) ?_ 0 _ rfl; (with_reducible repeat (first | apply kN | apply kD | apply kA)); refine blk_far ?_ NB157_158.out _; (with_reducible repeat (first | apply kN | apply kD | apply kA)); exact BK157.out) Tryd.underlying39 rfl (by kernel_rfl)) rfl ?_
     exact ⟨by first | rfl | (simp [errW_none, errW_some] <;> rfl) | (simp [*, errW_none, errW_some] <;> rfl), by repeat (first | (with_reducible first | exact HB.out | apply bA | apply bN | apply bD | refine bS ?_ GE156.out | refine bS ?_ GE157.out | refine bS ?_ GE158.out) | exact HB.out)⟩
    ·replace c38 := Bool.eq_false_iff.mpr c38
     subst c38
     have H1 : (if a0_0 = 5 then (some (a0_0, a0_1, 0, 0, 0, 0, 0, 0, 0, a0_9, 0, false)) else (if a0_0 = 6 then (some (a0_0, 0, 0, a0_3, a0_4, 0, 0, 0, 0, a0_9, a0_10, false)) else (if a0_0 = 7 then (some (a0_0, a0_1, 0, a0_3, 0, 0, 0, 0, 0, 0, 0, false)) else (if a0_0 = 8 then (some (a0_0, 0, 0, a0_3, a0_4, 0, 0, 0, 0, 0, 0, false)) else (if a0_0 = 9 then (some (a0_0, 0, 0, a0_3, 0, 0, 0, 0, 0, 0, 0, false)) else (if a0_0 = 10 then (some (a0_0, 0, 0, 0, 0, 0, 0, 0, 0, a0_9, 0, false)) else (if a0_0 = 11 then (some (a0_0, 0, 0, a0_3, 0, 0, 0, a0_7, a0_8, 0, 0, false)) else (some (0, 0, 0, 0, 0, 0, 0, 0, 0, 0, 0, false))))))))) = some (r1, r2, r3, r4, r5, r6, r7, r8, r9, r10, r11, r12) := by rw [if_neg (show ¬ (false = true) by decide)] at H; exact H
     clear H
     have H := H1
     clear H1
     by_cases c45 : a0_0 = 5
     ·rw [if_pos c45] at H
      have c45b0 : (a0_0 == 5) = true := beq_iff_eq.mpr c45
      have c45b1 : (a0_0 != 5) = false := bne_eq_false_iff_eq.mpr c45
      clear c45
      simp only [Option.some.injEq, Prod.mk.injEq] at H
      obtain ⟨rfl, rfl, rfl, rfl, rfl, rfl, rfl, rfl, rfl, rfl, rfl, rfl⟩ := H
      try go_wp2
      have n0_ := Aside0.mk (blk_drew BK156.out)
      have n1_ := Aside0.mk (blk_drew BK157.out)
      have n2_ := Aside0.mk (blk_drew BK158.out)
      have n3_ := Aside0.mk (below_drew1 HB.out)
      clear BK156 BK157 BK158 HB
      have BK156 := n0_; have BK157 := n1_; have BK158 := n2_; have HB := n3_
      clear n0_ n1_ n2_ n3_
      refine start_ (n := 8) (S := fun w' => w'.cell? ⟨gb156, 0, none⟩ = some (.int .i64 a0_0) ∧ w'.cell? ⟨gb156, 1, none⟩ = some (.int .i64 a0_1) ∧ w'.cell? ⟨gb156, 2, none⟩ = some (.int .i64 a0_2) ∧ w'.cell? ⟨gb156, 3, none⟩ = some (.int .i64 a0_3) ∧ w'.cell? ⟨gb156, 4, none⟩ = some (.int .i64 a0_4) ∧ w'.cell? ⟨gb156, 5, none⟩ = some (.int .i64 a0_5) ∧ w'.cell? ⟨gb156, 6, none⟩ = some (.int .i64 a0_6) ∧ w'.cell? ⟨gb156, 7, none⟩ = some (.int .i64 a0_7) ∧ w'.cell? ⟨gb156, 8, none⟩ = some (.int .i64 a0_8) ∧ w'.cell? ⟨gb156, 9, none⟩ = some (.int .i64 a0_9) ∧ w'.cell? ⟨gb156, 10, none⟩ = some (.int .i64 a0_10) ∧ w'.cell? ⟨gb156, 11, none⟩ = some (.bool a0_11)) (ds := []) #[false, false, false, false, false, false, false, false] (by kernel_rfl) rfl rfl ⟨(blk_cell BK156.out 0).trans rfl, (blk_cell BK156.out 1).trans rfl, (blk_cell BK156.out 2).trans rfl, (blk_cell BK156.out 3).trans rfl, (blk_cell BK156.out 4).trans rfl, (blk_cell BK156.out 5).trans rfl, (blk_cell BK156.out 6).trans rfl, (blk_cell BK156.out 7).trans rfl, (blk_cell BK156.out 8).trans rfl, (blk_cell BK156.out 9).trans rfl, (blk_cell BK156.out 10).trans rfl, (blk_cell BK156.out 11).trans rfl⟩ (fun hHeld => ?_); refine with_tabW cmd_Command_Clean.tab13 cmd_Command_Clean.bits13 (fun HT_ HW_ => ?_)
      generalize wc.drew = w46 at BK156 BK157 BK158 HB hHeld ⊢
      refine pu 0 (some 43) ?_ HT_ rfl rfl (by kernel_rfl) (fun _ _ _ h => h) (Or.inl ⟨by rfl, ?_⟩) ?_ ?_ ?_
      rotate_left
      ·intro w'; go_simp; with_reducible rfl
      rotate_left
      ·simp only [Act.put, sA, sB, sC, i64_w]; rfl
      refine pu 2 (some 45) ?_ HT_ rfl rfl (by kernel_rfl) (fun _ _ _ h => h) (Or.inl ⟨by rfl, ?_⟩) ?_ ?_ ?_
      rotate_left
      ·intro w'; go_simp; with_reducible rfl
      rotate_left
      ·simp only [Act.put, sA, sB, sC, i64_w]; rfl
      refine tk 1 (some 44) ?_ HT_ HW_ rfl rfl (by kernel_rfl) (fun _ _ _ h => h) (Or.inl ⟨by rfl, ?_⟩) hHeld ?_ ?_ ?_
      rotate_left
      ·rintro w' ⟨s0, s1, s2, s3, s4, s5, s6, s7, s8, s9, s10, s11⟩; go_simp; with_reducible rfl
      rotate_left
      ·simp only [Act.put, sA, sB, sC, i64_w]; rfl
      refine pu 4 (some 47) ?_ HT_ rfl rfl (by kernel_rfl) (fun _ _ _ h => h) (Or.inl ⟨by rfl, ?_⟩) ?_ ?_ ?_
      rotate_left
      ·intro w'; go_simp; with_reducible rfl
      rotate_left
      ·simp only [Act.put, sA, sB, sC, i64_w]; rfl
      refine tk 3 (some 46) ?_ HT_ HW_ rfl rfl (by kernel_rfl) (fun _ _ _ h => h) (Or.inl ⟨by rfl, ?_⟩) hHeld ?_ ?_ ?_
      rotate_left
      ·rintro w' ⟨s0, s1, s2, s3, s4, s5, s6, s7, s8, s9, s10, s11⟩; go_simp; with_reducible rfl
      rotate_left
      ·simp only [Act.put, sA, sB, sC, i64_w]; rfl
      refine on 5 none HT_ rfl rfl (by kernel_rfl) (by decide) (fun K hK => ?_)
      have hs47 : w46.cell? ⟨gb158, 1, none⟩ = some (.int .i64 0) := (blk_cell BK158.out 1).trans rfl
      have hfs47 := blk_frozen BK158.out 1
      have hns47_0 := NB156_158.out
      have hns47_1 := NB157_158.out
      have hms47_0 := NB158_156.out
      have hms47_1 := NB158_157.out
      refine skip_ (w1 := ?_) (by rfl) rfl ?_ ?_
      rotate_left
      ·go_simp
       rfl
      refine hK.out _ _ ⟨((cell_far (p := ⟨gb158, _, none⟩) NB156_158.out _).trans (hHeld.1)), ((cell_far (p := ⟨gb158, _, none⟩) NB156_158.out _).trans (hHeld.2.1)), ((cell_far (p := ⟨gb158, _, none⟩) NB156_158.out _).trans (hHeld.2.2.1)), ((cell_far (p := ⟨gb158, _, none⟩) NB156_158.out _).trans (hHeld.2.2.2.1)), ((cell_far (p := ⟨gb158, _, none⟩) NB156_158.out _).trans (hHeld.2.2.2.2.1)), ((cell_far (p := ⟨gb158, _, none⟩) NB156_158.out _).trans (hHeld.2.2.2.2.2.1)), ((cell_far (p := ⟨gb158, _, none⟩) NB156_158.out _).trans (hHeld.2.2.2.2.2.2.1)), ((cell_far (p := ⟨gb158, _, none⟩) NB156_158.out _).trans (hHeld.2.2.2.2.2.2.2.1)), ((cell_far (p := ⟨gb158, _, none⟩) NB156_158.out _).trans (hHeld.2.2.2.2.2.2.2.2.1)), ((cell_far (p := ⟨gb158, _, none⟩) NB156_158.out _).trans (hHeld.2.2.2.2.2.2.2.2.2.1)), ((cell_far (p := ⟨gb158, _, none⟩) NB156_158.out _).trans (hHeld.2.2.2.2.2.2.2.2.2.2.1)), ((cell_far (p := ⟨gb158, _, none⟩) NB156_158.out _).trans (hHeld.2.2.2.2.2.2.2.2.2.2.2))⟩ (fun hHeld => ?_)
      clear hK K
      refine pu 6 (some 48) ?_ HT_ rfl rfl (by kernel_rfl) (fun _ _ _ h => h) (Or.inl ⟨by rfl, ?_⟩) ?_ ?_ ?_
      rotate_left
      ·intro w'; go_simp; with_reducible rfl
      rotate_left
      ·simp only [Act.put, sA, sB, sC, i64_w]; rfl
      refine on 7 none HT_ rfl rfl (by kernel_rfl) (by decide) (fun K hK => ?_)
      have hs48 : w46.cell? ⟨gb158, 9, none⟩ = some (.int .i64 0) := (blk_cell BK158.out 9).trans rfl
      have hfs48 := blk_frozen BK158.out 9
      have hns48_0 := NB156_158.out
      have hns48_1 := NB157_158.out
      have hms48_0 := NB158_156.out
      have hms48_1 := NB158_157.out
      refine skip_ (w1 := ?_) (by rfl) rfl ?_ ?_
      rotate_left
      ·go_simp
       rfl
      refine hK.out _ _ ⟨((cell_far (p := ⟨gb158, _, none⟩) NB156_158.out _).trans (hHeld.1)), ((cell_far (p := ⟨gb158, _, none⟩) NB156_158.out _).trans (hHeld.2.1)), ((cell_far (p := ⟨gb158, _, none⟩) NB156_158.out _).trans (hHeld.2.2.1)), ((cell_far (p := ⟨gb158, _, none⟩) NB156_158.out _).trans (hHeld.2.2.2.1)), ((cell_far (p := ⟨gb158, _, none⟩) NB156_158.out _).trans (hHeld.2.2.2.2.1)), ((cell_far (p := ⟨gb158, _, none⟩) NB156_158.out _).trans (hHeld.2.2.2.2.2.1)), ((cell_far (p := ⟨gb158, _, none⟩) NB156_158.out _).trans (hHeld.2.2.2.2.2.2.1)), ((cell_far (p := ⟨gb158, _, none⟩) NB156_158.out _).trans (hHeld.2.2.2.2.2.2.2.1)), ((cell_far (p := ⟨gb158, _, none⟩) NB156_158.out _).trans (hHeld.2.2.2.2.2.2.2.2.1)), ((cell_far (p := ⟨gb158, _, none⟩) NB156_158.out _).trans (hHeld.2.2.2.2.2.2.2.2.2.1)), ((cell_far (p := ⟨gb158, _, none⟩) NB156_158.out _).trans (hHeld.2.2.2.2.2.2.2.2.2.2.1)), ((cell_far (p := ⟨gb158, _, none⟩) NB156_158.out _).trans (hHeld.2.2.2.2.2.2.2.2.2.2.2))⟩ (fun hHeld => ?_)
      clear hK K
      refine done_ (done_of HT_.out (by kernel_rfl)) ?_
      have hnb49 := NB158_156.out
      have hnc49 := NB156_158.out
      have hnb50 := NB158_157.out
      have hnc50 := NB157_158.out
      have hcz51_0 : w46.cell? ⟨gb158, 0, none⟩ = some (.int .i64 a0_0) := (blk_cell BK158.out 0).trans rfl
      have hcz51_1 : w46.cell? ⟨gb158, 1, none⟩ = some (.int .i64 0) := (blk_cell BK158.out 1).trans rfl
      have hcz51_2 : w46.cell? ⟨gb158, 2, none⟩ = some (.int .i64 0) := (blk_cell BK158.out 2).trans rfl
      have hcz51_3 : w46.cell? ⟨gb158, 3, none⟩ = some (.int .i64 0) := (blk_cell BK158.out 3).trans rfl
      have hcz51_4 : w46.cell? ⟨gb158, 4, none⟩ = some (.int .i64 0) := (blk_cell BK158.out 4).trans rfl
      have hcz51_5 : w46.cell? ⟨gb158, 5, none⟩ = some (.int .i64 0) := (blk_cell BK158.out 5).trans rfl
      have hcz51_6 : w46.cell? ⟨gb158, 6, none⟩ = some (.int .i64 0) := (blk_cell BK158.out 6).trans rfl
      have hcz51_7 : w46.cell? ⟨gb158, 7, none⟩ = some (.int .i64 0) := (blk_cell BK158.out 7).trans rfl
      have hcz51_8 : w46.cell? ⟨gb158, 8, none⟩ = some (.int .i64 0) := (blk_cell BK158.out 8).trans rfl
      have hcz51_9 : w46.cell? ⟨gb158, 9, none⟩ = some (.int .i64 0) := (blk_cell BK158.out 9).trans rfl
      have hcz51_10 : w46.cell? ⟨gb158, 10, none⟩ = some (.int .i64 0) := (blk_cell BK158.out 10).trans rfl
      have hcz51_11 : w46.cell? ⟨gb158, 11, none⟩ = some (.bool false) := (blk_cell BK158.out 11).trans rfl
      have hfz51_0 := blk_frozen BK158.out 0
      have hfz51_1 := blk_frozen BK158.out 1
      have hfz51_2 := blk_frozen BK158.out 2
      have hfz51_3 := blk_frozen BK158.out 3
      have hfz51_4 := blk_frozen BK158.out 4
      have hfz51_5 := blk_frozen BK158.out 5
      have hfz51_6 := blk_frozen BK158.out 6
      have hfz51_7 := blk_frozen BK158.out 7
      have hfz51_8 := blk_frozen BK158.out 8
      have hfz51_9 := blk_frozen BK158.out 9
      have hfz51_10 := blk_frozen BK158.out 10
      have hfz51_11 := blk_frozen BK158.out 11
      have hnb52 := NB157_156.out
      have hnc52 := NB156_157.out
      have hcz53_0 : w46.cell? ⟨gb157, 0, none⟩ = some (.int .i64 0) := (blk_cell BK157.out 0).trans rfl
      have hcz53_1 : w46.cell? ⟨gb157, 1, none⟩ = some (.int .i64 0) := (blk_cell BK157.out 1).trans rfl
      have hcz53_2 : w46.cell? ⟨gb157, 2, none⟩ = some (.int .i64 0) := (blk_cell BK157.out 2).trans rfl
      have hcz53_3 : w46.cell? ⟨gb157, 3, none⟩ = some (.int .i64 0) := (blk_cell BK157.out 3).trans rfl
      have hcz53_4 : w46.cell? ⟨gb157, 4, none⟩ = some (.int .i64 0) := (blk_cell BK157.out 4).trans rfl
      have hcz53_5 : w46.cell? ⟨gb157, 5, none⟩ = some (.int .i64 0) := (blk_cell BK157.out 5).trans rfl
      have hcz53_6 : w46.cell? ⟨gb157, 6, none⟩ = some (.int .i64 0) := (blk_cell BK157.out 6).trans rfl
      have hcz53_7 : w46.cell? ⟨gb157, 7, none⟩ = some (.int .i64 0) := (blk_cell BK157.out 7).trans rfl
      have hcz53_8 : w46.cell? ⟨gb157, 8, none⟩ = some (.int .i64 0) := (blk_cell BK157.out 8).trans rfl
      have hcz53_9 : w46.cell? ⟨gb157, 9, none⟩ = some (.int .i64 0) := (blk_cell BK157.out 9).trans rfl
      have hcz53_10 : w46.cell? ⟨gb157, 10, none⟩ = some (.int .i64 0) := (blk_cell BK157.out 10).trans rfl
      have hcz53_11 : w46.cell? ⟨gb157, 11, none⟩ = some (.bool false) := (blk_cell BK157.out 11).trans rfl
      have hfz53_0 := blk_frozen BK157.out 0
      have hfz53_1 := blk_frozen BK157.out 1
      have hfz53_2 := blk_frozen BK157.out 2
      have hfz53_3 := blk_frozen BK157.out 3
      have hfz53_4 := blk_frozen BK157.out 4
      have hfz53_5 := blk_frozen BK157.out 5
      have hfz53_6 := blk_frozen BK157.out 6
      have hfz53_7 := blk_frozen BK157.out 7
      have hfz53_8 := blk_frozen BK157.out 8
      have hfz53_9 := blk_frozen BK157.out 9
      have hfz53_10 := blk_frozen BK157.out 10
      have hfz53_11 := blk_frozen BK157.out 11
      try go_wp2
      refine bodyPost_ret (results_cell_row rfl _ _ gb157 39 #[.int .i64 a0_0, .int .i64 a0_1, .int .i64 0, .int .i64 0, .int .i64 0, .int .i64 0, .int .i64 0, .int .i64 0, .int .i64 0, .int .i64 a0_9, .int .i64 0, .bool false] (0, 0) _ rfl (by (with_reducible repeat (first | apply kN | apply kD | apply kA)); refine blk_put (cs := #[.int .i64 a0_0, .int .i64 a0_1, .int .i64 0, .int .i64 0, .int .i64 0, .int .i64 0, .int .i64 0, .int .i64 0, .int .i64 0, .int .i64 a0_9, .int .i64 0, .bool false]) ?_ 11 _ rfl; (with_reducible repeat (first | apply kN | apply kD | apply kA)); refine blk_put (cs := #[.int .i64 a0_0, .int .i64 a0_1, .int .i64 0, .int .i64 0, .int .i64 0, .int .i64 0, .int .i64 0, .int .i64 0, .int .i64 0, .int .i64 a0_9, .int .i64 0, .bool false]) ?_ 10 _ rfl; (with_reducible repeat (first | apply kN | apply kD | apply kA)); refine blk_put (cs := #[.int .i64 a0_0, .int .i64 a0_1, .int .i64 0, .int .i64 0, .int .i64 0, .int .i64 0, .int .i64 0, .int .i64 0, .int .i64 0, .int .i64 0, .int .i64 0, .bool false]) ?_ 9 _ rfl; (with_reducible repeat (first | apply kN | apply kD | apply kA)); refine blk_put (cs := #[.int .i64 a0_0, .int .i64 a0_1, .int .i64 0, .int .i64 0, .int .i64 0, .int .i64 0, .int .i64 0, .int .i64 0, .int .i64 0, .int .i64 0, .int .i64 0, .bool false]) ?_ 8 _ rfl; (with_reducible repeat (first | apply kN | apply kD | apply kA)); refine blk_put (cs := #[.int .i64 a0_0, .int .i64 a0_1, .int .i64 0, .int .i64 0, .int .i64 0, .int .i64 0, .int .i64 0, .int .i64 0, .int .i64 0, .int .i64 0, .int .i64 0, .bool false]) ?_ 7 _ rfl; (with_reducible repeat (first | apply kN | apply kD | apply kA)); refine blk_put (cs := #[.int .i64 a0_0, .int .i64 a0_1, .int .i64 0, .int .i64 0, .int .i64 0, .int .i64 0, .int .i64 0, .int .i64 0, .int .i64 0, .int .i64 0, .int .i64 0, .bool false]) ?_ 6 _ rfl; (with_reducible repeat (first | apply kN | apply kD | apply kA)); refine blk_put (cs := #[.int .i64 a0_0, .int .i64 a0_1, .int .i64 0, .int .i64 0, .int .i64 0, .int .i64 0, .int .i64 0, .int .i64 0, .int .i64 0, .int .i64 0, .int .i64 0, .bool false]) ?_ 5 _ rfl; (with_reducible repeat (first | apply kN | apply kD | apply kA)); refine blk_put (cs := #[.int .i64 a0_0, .int .i64 a0_1, .int .i64 0, .int .i64 0, .int .i64 0, .int .i64 0, .int .i64 0, .int .i64 0, .int .i64 0, .int .i64 0, .int .i64 0, .bool false]) ?_ 4 _ rfl; (with_reducible repeat (first | apply kN | apply kD | apply kA)); refine blk_put (cs := #[.int .i64 a0_0, .int .i64 a0_1, .int .i64 0, .int .i64 0, .int .i64 0, .int .i64 0, .int .i64 0, .int .i64 0, .int .i64 0, .int .i64 0, .int .i64 0, .bool false]) ?_ 3 _ rfl; (with_reducible repeat (first | apply kN | apply kD | apply kA)); refine blk_put (cs := #[.int .i64 a0_0, .int .i64 a0_1, .int .i64 0, .int .i64 0, .int .i64 0, .int .i64 0, .int .i64 0, .int .i64 0, .int .i64 0, .int .i64 0, .int .i64 0, .bool false]) ?_ 2 _ rfl; (with_reducible repeat (first | apply kN | apply kD | apply kA)); refine blk_put (cs := #[.int .i64 a0_0, .int .i64 0, .int .i64 0, .int .i64 0, .int .i64 0, .int .i64 0, .int .i64 0, .int .i64 0, .int .i64 0, .int .i64 0, .int .i64 0, .bool false]) ?_ 1 _ rfl; (with_reducible repeat (first | apply kN | apply kD | apply kA)); refine blk_put (cs := #[.int .i64 0, .int .i64 0, .int .i64 0, .int .i64 0, .int .i64 0, .int .i64 0, .int .i64 0, .int .i64 0, .int .i64 0, .int .i64 0, .int .i64 0, .bool false]) ?_ 0 _ rfl; (with_reducible repeat (first | apply kN | apply kD | apply kA)); refine blk_far ?_ NB157_158.out _; (with_reducible repeat (first | apply kN | apply kD | apply kA)); refine blk_far ?_ NB157_158.out _; (with_reducible repeat (first | apply kN | apply kD | apply kA)); exact BK157.out) Tryd.underlying39 rfl (by kernel_rfl)) rfl ?_
      exact ⟨by first | rfl | (simp [errW_none, errW_some] <;> rfl) | (simp [*, errW_none, errW_some] <;> rfl), by repeat (first | (with_reducible first | exact HB.out | apply bA | apply bN | apply bD | refine bS ?_ GE156.out | refine bS ?_ GE157.out | refine bS ?_ GE158.out) | exact HB.out)⟩
     ·rw [if_neg c45] at H
      have c45b0 : (a0_0 == 5) = false := beq_eq_false_iff_ne.mpr c45
      have c45b1 : (a0_0 != 5) = true := bne_iff_ne.mpr c45
      by_cases c54 : a0_0 = 6
      ·rw [if_pos c54] at H
       have c54b0 : (a0_0 == 6) = true := beq_iff_eq.mpr c54
       have c54b1 : (a0_0 != 6) = false := bne_eq_false_iff_eq.mpr c54
       clear c54
       simp only [Option.some.injEq, Prod.mk.injEq] at H
       obtain ⟨rfl, rfl, rfl, rfl, rfl, rfl, rfl, rfl, rfl, rfl, rfl, rfl⟩ := H
       try go_wp2
       have n0_ := Aside0.mk (blk_drew BK156.out)
       have n1_ := Aside0.mk (blk_drew BK157.out)
       have n2_ := Aside0.mk (blk_drew BK158.out)
       have n3_ := Aside0.mk (below_drew1 HB.out)
       clear BK156 BK157 BK158 HB
       have BK156 := n0_; have BK157 := n1_; have BK158 := n2_; have HB := n3_
       clear n0_ n1_ n2_ n3_
       refine start_ (n := 16) (S := fun w' => w'.cell? ⟨gb156, 0, none⟩ = some (.int .i64 a0_0) ∧ w'.cell? ⟨gb156, 1, none⟩ = some (.int .i64 a0_1) ∧ w'.cell? ⟨gb156, 2, none⟩ = some (.int .i64 a0_2) ∧ w'.cell? ⟨gb156, 3, none⟩ = some (.int .i64 a0_3) ∧ w'.cell? ⟨gb156, 4, none⟩ = some (.int .i64 a0_4) ∧ w'.cell? ⟨gb156, 5, none⟩ = some (.int .i64 a0_5) ∧ w'.cell? ⟨gb156, 6, none⟩ = some (.int .i64 a0_6) ∧ w'.cell? ⟨gb156, 7, none⟩ = some (.int .i64 a0_7) ∧ w'.cell? ⟨gb156, 8, none⟩ = some (.int .i64 a0_8) ∧ w'.cell? ⟨gb156, 9, none⟩ = some (.int .i64 a0_9) ∧ w'.cell? ⟨gb156, 10, none⟩ = some (.int .i64 a0_10) ∧ w'.cell? ⟨gb156, 11, none⟩ = some (.bool a0_11)) (ds := []) #[false, false, false, false, false, false, false, false, false, false, false, false, false, false, false, false] (by kernel_rfl) rfl rfl ⟨(blk_cell BK156.out 0).trans rfl, (blk_cell BK156.out 1).trans rfl, (blk_cell BK156.out 2).trans rfl, (blk_cell BK156.out 3).trans rfl, (blk_cell BK156.out 4).trans rfl, (blk_cell BK156.out 5).trans rfl, (blk_cell BK156.out 6).trans rfl, (blk_cell BK156.out 7).trans rfl, (blk_cell BK156.out 8).trans rfl, (blk_cell BK156.out 9).trans rfl, (blk_cell BK156.out 10).trans rfl, (blk_cell BK156.out 11).trans rfl⟩ (fun hHeld => ?_); refine with_tabW cmd_Command_Clean.tab15 cmd_Command_Clean.bits15 (fun HT_ HW_ => ?_)
       generalize wc.drew = w55 at BK156 BK157 BK158 HB hHeld ⊢
       refine pu 0 (some 51) ?_ HT_ rfl rfl (by kernel_rfl) (fun _ _ _ h => h) (Or.inl ⟨by rfl, ?_⟩) ?_ ?_ ?_
       rotate_left
       ·intro w'; go_simp; with_reducible rfl
       rotate_left
       ·simp only [Act.put, sA, sB, sC, i64_w]; rfl
       refine pu 2 (some 53) ?_ HT_ rfl rfl (by kernel_rfl) (fun _ _ _ h => h) (Or.inl ⟨by rfl, ?_⟩) ?_ ?_ ?_
       rotate_left
       ·intro w'; go_simp; with_reducible rfl
       rotate_left
       ·simp only [Act.put, sA, sB, sC, i64_w]; rfl
       refine pu 4 (some 55) ?_ HT_ rfl rfl (by kernel_rfl) (fun _ _ _ h => h) (Or.inl ⟨by rfl, ?_⟩) ?_ ?_ ?_
       rotate_left
       ·intro w'; go_simp; with_reducible rfl
       rotate_left
       ·simp only [Act.put, sA, sB, sC, i64_w]; rfl
       refine pu 6 (some 57) ?_ HT_ rfl rfl (by kernel_rfl) (fun _ _ _ h => h) (Or.inl ⟨by rfl, ?_⟩) ?_ ?_ ?_
       rotate_left
       ·intro w'; go_simp; with_reducible rfl
       rotate_left
       ·simp only [Act.put, sA, sB, sC, i64_w]; rfl
       refine tk 1 (some 52) ?_ HT_ HW_ rfl rfl (by kernel_rfl) (fun _ _ _ h => h) (Or.inl ⟨by rfl, ?_⟩) hHeld ?_ ?_ ?_
       rotate_left
       ·rintro w' ⟨s0, s1, s2, s3, s4, s5, s6, s7, s8, s9, s10, s11⟩; go_simp; with_reducible rfl
       rotate_left
       ·simp only [Act.put, sA, sB, sC, i64_w]; rfl
       refine pu 8 (some 59) ?_ HT_ rfl rfl (by kernel_rfl) (fun _ _ _ h => h) (Or.inl ⟨by rfl, ?_⟩) ?_ ?_ ?_
       rotate_left
       ·intro w'; go_simp; with_reducible rfl
       rotate_left
       ·simp only [Act.put, sA, sB, sC, i64_w]; rfl
       refine tk 3 (some 54) ?_ HT_ HW_ rfl rfl (by kernel_rfl) (fun _ _ _ h => h) (Or.inl ⟨by rfl, ?_⟩) hHeld ?_ ?_ ?_
       rotate_left
       ·rintro w' ⟨s0, s1, s2, s3, s4, s5, s6, s7, s8, s9, s10, s11⟩; go_simp; with_reducible rfl
       rotate_left
       ·simp only [Act.put, sA, sB, sC, i64_w]; rfl
       refine tk 5 (some 56) ?_ HT_ HW_ rfl rfl (by kernel_rfl) (fun _ _ _ h => h) (Or.inl ⟨by rfl, ?_⟩) hHeld ?_ ?_ ?_
       rotate_left
       ·rintro w' ⟨s0, s1, s2, s3, s4, s5, s6, s7, s8, s9, s10, s11⟩; go_simp; with_reducible rfl
       rotate_left
       ·simp only [Act.put, sA, sB, sC, i64_w]; rfl
       refine tk 7 (some 58) ?_ HT_ HW_ rfl rfl (by kernel_rfl) (fun _ _ _ h => h) (Or.inl ⟨by rfl, ?_⟩) hHeld ?_ ?_ ?_
       rotate_left
       ·rintro w' ⟨s0, s1, s2, s3, s4, s5, s6, s7, s8, s9, s10, s11⟩; go_simp; with_reducible rfl
       rotate_left
       ·simp only [Act.put, sA, sB, sC, i64_w]; rfl
       refine on 9 none HT_ rfl rfl (by kernel_rfl) (by decide) (fun K hK => ?_)
       have hs56 : w55.cell? ⟨gb158, 3, none⟩ = some (.int .i64 0) := (blk_cell BK158.out 3).trans rfl
       have hfs56 := blk_frozen BK158.out 3
       have hns56_0 := NB156_158.out
       have hns56_1 := NB157_158.out
       have hms56_0 := NB158_156.out
       have hms56_1 := NB158_157.out
       refine skip_ (w1 := ?_) (by rfl) rfl ?_ ?_
       rotate_left
       ·go_simp
        rfl
       refine hK.out _ _ ⟨((cell_far (p := ⟨gb158, _, none⟩) NB156_158.out _).trans (hHeld.1)), ((cell_far (p := ⟨gb158, _, none⟩) NB156_158.out _).trans (hHeld.2.1)), ((cell_far (p := ⟨gb158, _, none⟩) NB156_158.out _).trans (hHeld.2.2.1)), ((cell_far (p := ⟨gb158, _, none⟩) NB156_158.out _).trans (hHeld.2.2.2.1)), ((cell_far (p := ⟨gb158, _, none⟩) NB156_158.out _).trans (hHeld.2.2.2.2.1)), ((cell_far (p := ⟨gb158, _, none⟩) NB156_158.out _).trans (hHeld.2.2.2.2.2.1)), ((cell_far (p := ⟨gb158, _, none⟩) NB156_158.out _).trans (hHeld.2.2.2.2.2.2.1)), ((cell_far (p := ⟨gb158, _, none⟩) NB156_158.out _).trans (hHeld.2.2.2.2.2.2.2.1)), ((cell_far (p := ⟨gb158, _, none⟩) NB156_158.out _).trans (hHeld.2.2.2.2.2.2.2.2.1)), ((cell_far (p := ⟨gb158, _, none⟩) NB156_158.out _).trans (hHeld.2.2.2.2.2.2.2.2.2.1)), ((cell_far (p := ⟨gb158, _, none⟩) NB156_158.out _).trans (hHeld.2.2.2.2.2.2.2.2.2.2.1)), ((cell_far (p := ⟨gb158, _, none⟩) NB156_158.out _).trans (hHeld.2.2.2.2.2.2.2.2.2.2.2))⟩ (fun hHeld => ?_)
       clear hK K
       refine pu 10 (some 60) ?_ HT_ rfl rfl (by kernel_rfl) (fun _ _ _ h => h) (Or.inl ⟨by rfl, ?_⟩) ?_ ?_ ?_
       rotate_left
       ·intro w'; go_simp; with_reducible rfl
       rotate_left
       ·simp only [Act.put, sA, sB, sC, i64_w]; rfl
       refine on 11 none HT_ rfl rfl (by kernel_rfl) (by decide) (fun K hK => ?_)
       have hs57 : w55.cell? ⟨gb158, 4, none⟩ = some (.int .i64 0) := (blk_cell BK158.out 4).trans rfl
       have hfs57 := blk_frozen BK158.out 4
       have hns57_0 := NB156_158.out
       have hns57_1 := NB157_158.out
       have hms57_0 := NB158_156.out
       have hms57_1 := NB158_157.out
       refine skip_ (w1 := ?_) (by rfl) rfl ?_ ?_
       rotate_left
       ·go_simp
        rfl
       refine hK.out _ _ ⟨((cell_far (p := ⟨gb158, _, none⟩) NB156_158.out _).trans (hHeld.1)), ((cell_far (p := ⟨gb158, _, none⟩) NB156_158.out _).trans (hHeld.2.1)), ((cell_far (p := ⟨gb158, _, none⟩) NB156_158.out _).trans (hHeld.2.2.1)), ((cell_far (p := ⟨gb158, _, none⟩) NB156_158.out _).trans (hHeld.2.2.2.1)), ((cell_far (p := ⟨gb158, _, none⟩) NB156_158.out _).trans (hHeld.2.2.2.2.1)), ((cell_far (p := ⟨gb158, _, none⟩) NB156_158.out _).trans (hHeld.2.2.2.2.2.1)), ((cell_far (p := ⟨gb158, _, none⟩) NB156_158.out _).trans (hHeld.2.2.2.2.2.2.1)), ((cell_far (p := ⟨gb158, _, none⟩) NB156_158.out _).trans (hHeld.2.2.2.2.2.2.2.1)), ((cell_far (p := ⟨gb158, _, none⟩) NB156_158.out _).trans (hHeld.2.2.2.2.2.2.2.2.1)), ((cell_far (p := ⟨gb158, _, none⟩) NB156_158.out _).trans (hHeld.2.2.2.2.2.2.2.2.2.1)), ((cell_far (p := ⟨gb158, _, none⟩) NB156_158.out _).trans (hHeld.2.2.2.2.2.2.2.2.2.2.1)), ((cell_far (p := ⟨gb158, _, none⟩) NB156_158.out _).trans (hHeld.2.2.2.2.2.2.2.2.2.2.2))⟩ (fun hHeld => ?_)
       clear hK K
       refine pu 12 (some 61) ?_ HT_ rfl rfl (by kernel_rfl) (fun _ _ _ h => h) (Or.inl ⟨by rfl, ?_⟩) ?_ ?_ ?_
       rotate_left
       ·intro w'; go_simp; with_reducible rfl
       rotate_left
       ·simp only [Act.put, sA, sB, sC, i64_w]; rfl
       refine on 13 none HT_ rfl rfl (by kernel_rfl) (by decide) (fun K hK => ?_)
       have hs58 : w55.cell? ⟨gb158, 9, none⟩ = some (.int .i64 0) := (blk_cell BK158.out 9).trans rfl
       have hfs58 := blk_frozen BK158.out 9
       have hns58_0 := NB156_158.out
       have hns58_1 := NB157_158.out
       have hms58_0 := NB158_156.out
       have hms58_1 := NB158_157.out
       refine skip_ (w1 := ?_) (by rfl) rfl ?_ ?_
       rotate_left
       ·go_simp
        rfl
       refine hK.out _ _ ⟨((cell_far (p := ⟨gb158, _, none⟩) NB156_158.out _).trans (hHeld.1)), ((cell_far (p := ⟨gb158, _, none⟩) NB156_158.out _).trans (hHeld.2.1)), ((cell_far (p := ⟨gb158, _, none⟩) NB156_158.out _).trans (hHeld.2.2.1)), ((cell_far (p := ⟨gb158, _, none⟩) NB156_158.out _).trans (hHeld.2.2.2.1)), ((cell_far (p := ⟨gb158, _, none⟩) NB156_158.out _).trans (hHeld.2.2.2.2.1)), ((cell_far (p := ⟨gb158, _, none⟩) NB156_158.out _).trans (hHeld.2.2.2.2.2.1)), ((cell_far (p := ⟨gb158, _, none⟩) NB156_158.out _).trans (hHeld.2.2.2.2.2.2.1)), ((cell_far (p := ⟨gb158, _, none⟩) NB156_158.out _).trans (hHeld.2.2.2.2.2.2.2.1)), ((cell_far (p := ⟨gb158, _, none⟩) NB156_158.out _).trans (hHeld.2.2.2.2.2.2.2.2.1)), ((cell_far (p := ⟨gb158, _, none⟩) NB156_158.out _).trans (hHeld.2.2.2.2.2.2.2.2.2.1)), ((cell_far (p := ⟨gb158, _, none⟩) NB156_158.out _).trans (hHeld.2.2.2.2.2.2.2.2.2.2.1)), ((cell_far (p := ⟨gb158, _, none⟩) NB156_158.out _).trans (hHeld.2.2.2.2.2.2.2.2.2.2.2))⟩ (fun hHeld => ?_)
       clear hK K
       refine pu 14 (some 62) ?_ HT_ rfl rfl (by kernel_rfl) (fun _ _ _ h => h) (Or.inl ⟨by rfl, ?_⟩) ?_ ?_ ?_
       rotate_left
       ·intro w'; go_simp; with_reducible rfl
       rotate_left
       ·simp only [Act.put, sA, sB, sC, i64_w]; rfl
       refine on 15 none HT_ rfl rfl (by kernel_rfl) (by decide) (fun K hK => ?_)
       have hs59 : w55.cell? ⟨gb158, 10, none⟩ = some (.int .i64 0) := (blk_cell BK158.out 10).trans rfl
       have hfs59 := blk_frozen BK158.out 10
       have hns59_0 := NB156_158.out
       have hns59_1 := NB157_158.out
       have hms59_0 := NB158_156.out
       have hms59_1 := NB158_157.out
       refine skip_ (w1 := ?_) (by rfl) rfl ?_ ?_
       rotate_left
       ·go_simp
        rfl
       refine hK.out _ _ ⟨((cell_far (p := ⟨gb158, _, none⟩) NB156_158.out _).trans (hHeld.1)), ((cell_far (p := ⟨gb158, _, none⟩) NB156_158.out _).trans (hHeld.2.1)), ((cell_far (p := ⟨gb158, _, none⟩) NB156_158.out _).trans (hHeld.2.2.1)), ((cell_far (p := ⟨gb158, _, none⟩) NB156_158.out _).trans (hHeld.2.2.2.1)), ((cell_far (p := ⟨gb158, _, none⟩) NB156_158.out _).trans (hHeld.2.2.2.2.1)), ((cell_far (p := ⟨gb158, _, none⟩) NB156_158.out _).trans (hHeld.2.2.2.2.2.1)), ((cell_far (p := ⟨gb158, _, none⟩) NB156_158.out _).trans (hHeld.2.2.2.2.2.2.1)), ((cell_far (p := ⟨gb158, _, none⟩) NB156_158.out _).trans (hHeld.2.2.2.2.2.2.2.1)), ((cell_far (p := ⟨gb158, _, none⟩) NB156_158.out _).trans (hHeld.2.2.2.2.2.2.2.2.1)), ((cell_far (p := ⟨gb158, _, none⟩) NB156_158.out _).trans (hHeld.2.2.2.2.2.2.2.2.2.1)), ((cell_far (p := ⟨gb158, _, none⟩) NB156_158.out _).trans (hHeld.2.2.2.2.2.2.2.2.2.2.1)), ((cell_far (p := ⟨gb158, _, none⟩) NB156_158.out _).trans (hHeld.2.2.2.2.2.2.2.2.2.2.2))⟩ (fun hHeld => ?_)
       clear hK K
       refine done_ (done_of HT_.out (by kernel_rfl)) ?_
       have hnb60 := NB158_156.out
       have hnc60 := NB156_158.out
       have hnb61 := NB158_157.out
       have hnc61 := NB157_158.out
       have hcz62_0 : w55.cell? ⟨gb158, 0, none⟩ = some (.int .i64 a0_0) := (blk_cell BK158.out 0).trans rfl
       have hcz62_1 : w55.cell? ⟨gb158, 1, none⟩ = some (.int .i64 0) := (blk_cell BK158.out 1).trans rfl
       have hcz62_2 : w55.cell? ⟨gb158, 2, none⟩ = some (.int .i64 0) := (blk_cell BK158.out 2).trans rfl
       have hcz62_3 : w55.cell? ⟨gb158, 3, none⟩ = some (.int .i64 0) := (blk_cell BK158.out 3).trans rfl
       have hcz62_4 : w55.cell? ⟨gb158, 4, none⟩ = some (.int .i64 0) := (blk_cell BK158.out 4).trans rfl
       have hcz62_5 : w55.cell? ⟨gb158, 5, none⟩ = some (.int .i64 0) := (blk_cell BK158.out 5).trans rfl
       have hcz62_6 : w55.cell? ⟨gb158, 6, none⟩ = some (.int .i64 0) := (blk_cell BK158.out 6).trans rfl
       have hcz62_7 : w55.cell? ⟨gb158, 7, none⟩ = some (.int .i64 0) := (blk_cell BK158.out 7).trans rfl
       have hcz62_8 : w55.cell? ⟨gb158, 8, none⟩ = some (.int .i64 0) := (blk_cell BK158.out 8).trans rfl
       have hcz62_9 : w55.cell? ⟨gb158, 9, none⟩ = some (.int .i64 0) := (blk_cell BK158.out 9).trans rfl
       have hcz62_10 : w55.cell? ⟨gb158, 10, none⟩ = some (.int .i64 0) := (blk_cell BK158.out 10).trans rfl
       have hcz62_11 : w55.cell? ⟨gb158, 11, none⟩ = some (.bool false) := (blk_cell BK158.out 11).trans rfl
       have hfz62_0 := blk_frozen BK158.out 0
       have hfz62_1 := blk_frozen BK158.out 1
       have hfz62_2 := blk_frozen BK158.out 2
       have hfz62_3 := blk_frozen BK158.out 3
       have hfz62_4 := blk_frozen BK158.out 4
       have hfz62_5 := blk_frozen BK158.out 5
       have hfz62_6 := blk_frozen BK158.out 6
       have hfz62_7 := blk_frozen BK158.out 7
       have hfz62_8 := blk_frozen BK158.out 8
       have hfz62_9 := blk_frozen BK158.out 9
       have hfz62_10 := blk_frozen BK158.out 10
       have hfz62_11 := blk_frozen BK158.out 11
       have hnb63 := NB157_156.out
       have hnc63 := NB156_157.out
       have hcz64_0 : w55.cell? ⟨gb157, 0, none⟩ = some (.int .i64 0) := (blk_cell BK157.out 0).trans rfl
       have hcz64_1 : w55.cell? ⟨gb157, 1, none⟩ = some (.int .i64 0) := (blk_cell BK157.out 1).trans rfl
       have hcz64_2 : w55.cell? ⟨gb157, 2, none⟩ = some (.int .i64 0) := (blk_cell BK157.out 2).trans rfl
       have hcz64_3 : w55.cell? ⟨gb157, 3, none⟩ = some (.int .i64 0) := (blk_cell BK157.out 3).trans rfl
       have hcz64_4 : w55.cell? ⟨gb157, 4, none⟩ = some (.int .i64 0) := (blk_cell BK157.out 4).trans rfl
       have hcz64_5 : w55.cell? ⟨gb157, 5, none⟩ = some (.int .i64 0) := (blk_cell BK157.out 5).trans rfl
       have hcz64_6 : w55.cell? ⟨gb157, 6, none⟩ = some (.int .i64 0) := (blk_cell BK157.out 6).trans rfl
       have hcz64_7 : w55.cell? ⟨gb157, 7, none⟩ = some (.int .i64 0) := (blk_cell BK157.out 7).trans rfl
       have hcz64_8 : w55.cell? ⟨gb157, 8, none⟩ = some (.int .i64 0) := (blk_cell BK157.out 8).trans rfl
       have hcz64_9 : w55.cell? ⟨gb157, 9, none⟩ = some (.int .i64 0) := (blk_cell BK157.out 9).trans rfl
       have hcz64_10 : w55.cell? ⟨gb157, 10, none⟩ = some (.int .i64 0) := (blk_cell BK157.out 10).trans rfl
       have hcz64_11 : w55.cell? ⟨gb157, 11, none⟩ = some (.bool false) := (blk_cell BK157.out 11).trans rfl
       have hfz64_0 := blk_frozen BK157.out 0
       have hfz64_1 := blk_frozen BK157.out 1
       have hfz64_2 := blk_frozen BK157.out 2
       have hfz64_3 := blk_frozen BK157.out 3
       have hfz64_4 := blk_frozen BK157.out 4
       have hfz64_5 := blk_frozen BK157.out 5
       have hfz64_6 := blk_frozen BK157.out 6
       have hfz64_7 := blk_frozen BK157.out 7
       have hfz64_8 := blk_frozen BK157.out 8
       have hfz64_9 := blk_frozen BK157.out 9
       have hfz64_10 := blk_frozen BK157.out 10
       have hfz64_11 := blk_frozen BK157.out 11
       try go_wp2
       refine bodyPost_ret (results_cell_row rfl _ _ gb157 39 #[.int .i64 a0_0, .int .i64 0, .int .i64 0, .int .i64 a0_3, .int .i64 a0_4, .int .i64 0, .int .i64 0, .int .i64 0, .int .i64 0, .int .i64 a0_9, .int .i64 a0_10, .bool false] (0, 0) _ rfl (by (with_reducible repeat (first | apply kN | apply kD | apply kA)); refine blk_put (cs := #[.int .i64 a0_0, .int .i64 0, .int .i64 0, .int .i64 a0_3, .int .i64 a0_4, .int .i64 0, .int .i64 0, .int .i64 0, .int .i64 0, .int .i64 a0_9, .int .i64 a0_10, .bool false]) ?_ 11 _ rfl; (with_reducible repeat (first | apply kN | apply kD | apply kA)); refine blk_put (cs := #[.int .i64 a0_0, .int .i64 0, .int .i64 0, .int .i64 a0_3, .int .i64 a0_4, .int .i64 0, .int .i64 0, .int .i64 0, .int .i64 0, .int .i64 a0_9, .int .i64 0, .bool false]) ?_ 10 _ rfl; (with_reducible repeat (first | apply kN | apply kD | apply kA)); refine blk_put (cs := #[.int .i64 a0_0, .int .i64 0, .int .i64 0, .int .i64 a0_3, .int .i64 a0_4, .int .i64 0, .int .i64 0, .int .i64 0, .int .i64 0, .int .i64 0, .int .i64 0, .bool false]) ?_ 9 _ rfl; (with_reducible repeat (first | apply kN | apply kD | apply kA)); refine blk_put (cs := #[.int .i64 a0_0, .int .i64 0, .int .i64 0, .int .i64 a0_3, .int .i64 a0_4, .int .i64 0, .int .i64 0, .int .i64 0, .int .i64 0, .int .i64 0, .int .i64 0, .bool false]) ?_ 8 _ rfl; (with_reducible repeat (first | apply kN | apply kD | apply kA)); refine blk_put (cs := #[.int .i64 a0_0, .int .i64 0, .int .i64 0, .int .i64 a0_3, .int .i64 a0_4, .int .i64 0, .int .i64 0, .int .i64 0, .int .i64 0, .int .i64 0, .int .i64 0, .bool false]) ?_ 7 _ rfl; (with_reducible repeat (first | apply kN | apply kD | apply kA)); refine blk_put (cs := #[.int .i64 a0_0, .int .i64 0, .int .i64 0, .int .i64 a0_3, .int .i64 a0_4, .int .i64 0, .int .i64 0, .int .i64 0, .int .i64 0, .int .i64 0, .int .i64 0, .bool false]) ?_ 6 _ rfl; (with_reducible repeat (first | apply kN | apply kD | apply kA)); refine blk_put (cs := #[.int .i64 a0_0, .int .i64 0, .int .i64 0, .int .i64 a0_3, .int .i64 a0_4, .int .i64 0, .int .i64 0, .int .i64 0, .int .i64 0, .int .i64 0, .int .i64 0, .bool false]) ?_ 5 _ rfl; (with_reducible repeat (first | apply kN | apply kD | apply kA)); refine blk_put (cs := #[.int .i64 a0_0, .int .i64 0, .int .i64 0, .int .i64 a0_3, .int .i64 0, .int .i64 0, .int .i64 0, .int .i64 0, .int .i64 0, .int .i64 0, .int .i64 0, .bool false]) ?_ 4 _ rfl; (with_reducible repeat (first | apply kN | apply kD | apply kA)); refine blk_put (cs := #[.int .i64 a0_0, .int .i64 0, .int .i64 0, .int .i64 0, .int .i64 0, .int .i64 0, .int .i64 0, .int .i64 0, .int .i64 0, .int .i64 0, .int .i64 0, .bool false]) ?_ 3 _ rfl; (with_reducible repeat (first | apply kN | apply kD | apply kA)); refine blk_put (cs := #[.int .i64 a0_0, .int .i64 0, .int .i64 0, .int .i64 0, .int .i64 0, .int .i64 0, .int .i64 0, .int .i64 0, .int .i64 0, .int .i64 0, .int .i64 0, .bool false]) ?_ 2 _ rfl; (with_reducible repeat (first | apply kN | apply kD | apply kA)); refine blk_put (cs := #[.int .i64 a0_0, .int .i64 0, .int .i64 0, .int .i64 0, .int .i64 0, .int .i64 0, .int .i64 0, .int .i64 0, .int .i64 0, .int .i64 0, .int .i64 0, .bool false]) ?_ 1 _ rfl; (with_reducible repeat (first | apply kN | apply kD | apply kA)); refine blk_put (cs := #[.int .i64 0, .int .i64 0, .int .i64 0, .int .i64 0, .int .i64 0, .int .i64 0, .int .i64 0, .int .i64 0, .int .i64 0, .int .i64 0, .int .i64 0, .bool false]) ?_ 0 _ rfl; (with_reducible repeat (first | apply kN | apply kD | apply kA)); refine blk_far ?_ NB157_158.out _; (with_reducible repeat (first | apply kN | apply kD | apply kA)); refine blk_far ?_ NB157_158.out _; (with_reducible repeat (first | apply kN | apply kD | apply kA)); refine blk_far ?_ NB157_158.out _; (with_reducible repeat (first | apply kN | apply kD | apply kA)); refine blk_far ?_ NB157_158.out _; (with_reducible repeat (first | apply kN | apply kD | apply kA)); exact BK157.out) Tryd.underlying39 rfl (by kernel_rfl)) rfl ?_
       exact ⟨by first | rfl | (simp [errW_none, errW_some] <;> rfl) | (simp [*, errW_none, errW_some] <;> rfl), by repeat (first | (with_reducible first | exact HB.out | apply bA | apply bN | apply bD | refine bS ?_ GE156.out | refine bS ?_ GE157.out | refine bS ?_ GE158.out) | exact HB.out)⟩
      ·rw [if_neg c54] at H
       have c54b0 : (a0_0 == 6) = false := beq_eq_false_iff_ne.mpr c54
       have c54b1 : (a0_0 != 6) = true := bne_iff_ne.mpr c54
       by_cases c65 : a0_0 = 7
       ·rw [if_pos c65] at H
        have c65b0 : (a0_0 == 7) = true := beq_iff_eq.mpr c65
        have c65b1 : (a0_0 != 7) = false := bne_eq_false_iff_eq.mpr c65
        clear c65
        simp only [Option.some.injEq, Prod.mk.injEq] at H
        obtain ⟨rfl, rfl, rfl, rfl, rfl, rfl, rfl, rfl, rfl, rfl, rfl, rfl⟩ := H
        try go_wp2
        have n0_ := Aside0.mk (blk_drew BK156.out)
        have n1_ := Aside0.mk (blk_drew BK157.out)
        have n2_ := Aside0.mk (blk_drew BK158.out)
        have n3_ := Aside0.mk (below_drew1 HB.out)
        clear BK156 BK157 BK158 HB
        have BK156 := n0_; have BK157 := n1_; have BK158 := n2_; have HB := n3_
        clear n0_ n1_ n2_ n3_
        refine start_ (n := 8) (S := fun w' => w'.cell? ⟨gb156, 0, none⟩ = some (.int .i64 a0_0) ∧ w'.cell? ⟨gb156, 1, none⟩ = some (.int .i64 a0_1) ∧ w'.cell? ⟨gb156, 2, none⟩ = some (.int .i64 a0_2) ∧ w'.cell? ⟨gb156, 3, none⟩ = some (.int .i64 a0_3) ∧ w'.cell? ⟨gb156, 4, none⟩ = some (.int .i64 a0_4) ∧ w'.cell? ⟨gb156, 5, none⟩ = some (.int .i64 a0_5) ∧ w'.cell? ⟨gb156, 6, none⟩ = some (.int .i64 a0_6) ∧ w'.cell? ⟨gb156, 7, none⟩ = some (.int .i64 a0_7) ∧ w'.cell? ⟨gb156, 8, none⟩ = some (.int .i64 a0_8) ∧ w'.cell? ⟨gb156, 9, none⟩ = some (.int .i64 a0_9) ∧ w'.cell? ⟨gb156, 10, none⟩ = some (.int .i64 a0_10) ∧ w'.cell? ⟨gb156, 11, none⟩ = some (.bool a0_11)) (ds := []) #[false, false, false, false, false, false, false, false] (by kernel_rfl) rfl rfl ⟨(blk_cell BK156.out 0).trans rfl, (blk_cell BK156.out 1).trans rfl, (blk_cell BK156.out 2).trans rfl, (blk_cell BK156.out 3).trans rfl, (blk_cell BK156.out 4).trans rfl, (blk_cell BK156.out 5).trans rfl, (blk_cell BK156.out 6).trans rfl, (blk_cell BK156.out 7).trans rfl, (blk_cell BK156.out 8).trans rfl, (blk_cell BK156.out 9).trans rfl, (blk_cell BK156.out 10).trans rfl, (blk_cell BK156.out 11).trans rfl⟩ (fun hHeld => ?_); refine with_tabW cmd_Command_Clean.tab17 cmd_Command_Clean.bits17 (fun HT_ HW_ => ?_)
        generalize wc.drew = w66 at BK156 BK157 BK158 HB hHeld ⊢
        refine pu 0 (some 65) ?_ HT_ rfl rfl (by kernel_rfl) (fun _ _ _ h => h) (Or.inl ⟨by rfl, ?_⟩) ?_ ?_ ?_
        rotate_left
        ·intro w'; go_simp; with_reducible rfl
        rotate_left
        ·simp only [Act.put, sA, sB, sC, i64_w]; rfl
        refine pu 2 (some 67) ?_ HT_ rfl rfl (by kernel_rfl) (fun _ _ _ h => h) (Or.inl ⟨by rfl, ?_⟩) ?_ ?_ ?_
        rotate_left
        ·intro w'; go_simp; with_reducible rfl
        rotate_left
        ·simp only [Act.put, sA, sB, sC, i64_w]; rfl
        refine tk 1 (some 66) ?_ HT_ HW_ rfl rfl (by kernel_rfl) (fun _ _ _ h => h) (Or.inl ⟨by rfl, ?_⟩) hHeld ?_ ?_ ?_
        rotate_left
        ·rintro w' ⟨s0, s1, s2, s3, s4, s5, s6, s7, s8, s9, s10, s11⟩; go_simp; with_reducible rfl
        rotate_left
        ·simp only [Act.put, sA, sB, sC, i64_w]; rfl
        refine pu 4 (some 69) ?_ HT_ rfl rfl (by kernel_rfl) (fun _ _ _ h => h) (Or.inl ⟨by rfl, ?_⟩) ?_ ?_ ?_
        rotate_left
        ·intro w'; go_simp; with_reducible rfl
        rotate_left
        ·simp only [Act.put, sA, sB, sC, i64_w]; rfl
        refine tk 3 (some 68) ?_ HT_ HW_ rfl rfl (by kernel_rfl) (fun _ _ _ h => h) (Or.inl ⟨by rfl, ?_⟩) hHeld ?_ ?_ ?_
        rotate_left
        ·rintro w' ⟨s0, s1, s2, s3, s4, s5, s6, s7, s8, s9, s10, s11⟩; go_simp; with_reducible rfl
        rotate_left
        ·simp only [Act.put, sA, sB, sC, i64_w]; rfl
        refine on 5 none HT_ rfl rfl (by kernel_rfl) (by decide) (fun K hK => ?_)
        have hs67 : w66.cell? ⟨gb158, 3, none⟩ = some (.int .i64 0) := (blk_cell BK158.out 3).trans rfl
        have hfs67 := blk_frozen BK158.out 3
        have hns67_0 := NB156_158.out
        have hns67_1 := NB157_158.out
        have hms67_0 := NB158_156.out
        have hms67_1 := NB158_157.out
        refine skip_ (w1 := ?_) (by rfl) rfl ?_ ?_
        rotate_left
        ·go_simp
         rfl
        refine hK.out _ _ ⟨((cell_far (p := ⟨gb158, _, none⟩) NB156_158.out _).trans (hHeld.1)), ((cell_far (p := ⟨gb158, _, none⟩) NB156_158.out _).trans (hHeld.2.1)), ((cell_far (p := ⟨gb158, _, none⟩) NB156_158.out _).trans (hHeld.2.2.1)), ((cell_far (p := ⟨gb158, _, none⟩) NB156_158.out _).trans (hHeld.2.2.2.1)), ((cell_far (p := ⟨gb158, _, none⟩) NB156_158.out _).trans (hHeld.2.2.2.2.1)), ((cell_far (p := ⟨gb158, _, none⟩) NB156_158.out _).trans (hHeld.2.2.2.2.2.1)), ((cell_far (p := ⟨gb158, _, none⟩) NB156_158.out _).trans (hHeld.2.2.2.2.2.2.1)), ((cell_far (p := ⟨gb158, _, none⟩) NB156_158.out _).trans (hHeld.2.2.2.2.2.2.2.1)), ((cell_far (p := ⟨gb158, _, none⟩) NB156_158.out _).trans (hHeld.2.2.2.2.2.2.2.2.1)), ((cell_far (p := ⟨gb158, _, none⟩) NB156_158.out _).trans (hHeld.2.2.2.2.2.2.2.2.2.1)), ((cell_far (p := ⟨gb158, _, none⟩) NB156_158.out _).trans (hHeld.2.2.2.2.2.2.2.2.2.2.1)), ((cell_far (p := ⟨gb158, _, none⟩) NB156_158.out _).trans (hHeld.2.2.2.2.2.2.2.2.2.2.2))⟩ (fun hHeld => ?_)
        clear hK K
        refine pu 6 (some 70) ?_ HT_ rfl rfl (by kernel_rfl) (fun _ _ _ h => h) (Or.inl ⟨by rfl, ?_⟩) ?_ ?_ ?_
        rotate_left
        ·intro w'; go_simp; with_reducible rfl
        rotate_left
        ·simp only [Act.put, sA, sB, sC, i64_w]; rfl
        refine on 7 none HT_ rfl rfl (by kernel_rfl) (by decide) (fun K hK => ?_)
        have hs68 : w66.cell? ⟨gb158, 1, none⟩ = some (.int .i64 0) := (blk_cell BK158.out 1).trans rfl
        have hfs68 := blk_frozen BK158.out 1
        have hns68_0 := NB156_158.out
        have hns68_1 := NB157_158.out
        have hms68_0 := NB158_156.out
        have hms68_1 := NB158_157.out
        refine skip_ (w1 := ?_) (by rfl) rfl ?_ ?_
        rotate_left
        ·go_simp
         rfl
        refine hK.out _ _ ⟨((cell_far (p := ⟨gb158, _, none⟩) NB156_158.out _).trans (hHeld.1)), ((cell_far (p := ⟨gb158, _, none⟩) NB156_158.out _).trans (hHeld.2.1)), ((cell_far (p := ⟨gb158, _, none⟩) NB156_158.out _).trans (hHeld.2.2.1)), ((cell_far (p := ⟨gb158, _, none⟩) NB156_158.out _).trans (hHeld.2.2.2.1)), ((cell_far (p := ⟨gb158, _, none⟩) NB156_158.out _).trans (hHeld.2.2.2.2.1)), ((cell_far (p := ⟨gb158, _, none⟩) NB156_158.out _).trans (hHeld.2.2.2.2.2.1)), ((cell_far (p := ⟨gb158, _, none⟩) NB156_158.out _).trans (hHeld.2.2.2.2.2.2.1)), ((cell_far (p := ⟨gb158, _, none⟩) NB156_158.out _).trans (hHeld.2.2.2.2.2.2.2.1)), ((cell_far (p := ⟨gb158, _, none⟩) NB156_158.out _).trans (hHeld.2.2.2.2.2.2.2.2.1)), ((cell_far (p := ⟨gb158, _, none⟩) NB156_158.out _).trans (hHeld.2.2.2.2.2.2.2.2.2.1)), ((cell_far (p := ⟨gb158, _, none⟩) NB156_158.out _).trans (hHeld.2.2.2.2.2.2.2.2.2.2.1)), ((cell_far (p := ⟨gb158, _, none⟩) NB156_158.out _).trans (hHeld.2.2.2.2.2.2.2.2.2.2.2))⟩ (fun hHeld => ?_)
        clear hK K
        refine done_ (done_of HT_.out (by kernel_rfl)) ?_
        have hnb69 := NB158_156.out
        have hnc69 := NB156_158.out
        have hnb70 := NB158_157.out
        have hnc70 := NB157_158.out
        have hcz71_0 : w66.cell? ⟨gb158, 0, none⟩ = some (.int .i64 a0_0) := (blk_cell BK158.out 0).trans rfl
        have hcz71_1 : w66.cell? ⟨gb158, 1, none⟩ = some (.int .i64 0) := (blk_cell BK158.out 1).trans rfl
        have hcz71_2 : w66.cell? ⟨gb158, 2, none⟩ = some (.int .i64 0) := (blk_cell BK158.out 2).trans rfl
        have hcz71_3 : w66.cell? ⟨gb158, 3, none⟩ = some (.int .i64 0) := (blk_cell BK158.out 3).trans rfl
        have hcz71_4 : w66.cell? ⟨gb158, 4, none⟩ = some (.int .i64 0) := (blk_cell BK158.out 4).trans rfl
        have hcz71_5 : w66.cell? ⟨gb158, 5, none⟩ = some (.int .i64 0) := (blk_cell BK158.out 5).trans rfl
        have hcz71_6 : w66.cell? ⟨gb158, 6, none⟩ = some (.int .i64 0) := (blk_cell BK158.out 6).trans rfl
        have hcz71_7 : w66.cell? ⟨gb158, 7, none⟩ = some (.int .i64 0) := (blk_cell BK158.out 7).trans rfl
        have hcz71_8 : w66.cell? ⟨gb158, 8, none⟩ = some (.int .i64 0) := (blk_cell BK158.out 8).trans rfl
        have hcz71_9 : w66.cell? ⟨gb158, 9, none⟩ = some (.int .i64 0) := (blk_cell BK158.out 9).trans rfl
        have hcz71_10 : w66.cell? ⟨gb158, 10, none⟩ = some (.int .i64 0) := (blk_cell BK158.out 10).trans rfl
        have hcz71_11 : w66.cell? ⟨gb158, 11, none⟩ = some (.bool false) := (blk_cell BK158.out 11).trans rfl
        have hfz71_0 := blk_frozen BK158.out 0
        have hfz71_1 := blk_frozen BK158.out 1
        have hfz71_2 := blk_frozen BK158.out 2
        have hfz71_3 := blk_frozen BK158.out 3
        have hfz71_4 := blk_frozen BK158.out 4
        have hfz71_5 := blk_frozen BK158.out 5
        have hfz71_6 := blk_frozen BK158.out 6
        have hfz71_7 := blk_frozen BK158.out 7
        have hfz71_8 := blk_frozen BK158.out 8
        have hfz71_9 := blk_frozen BK158.out 9
        have hfz71_10 := blk_frozen BK158.out 10
        have hfz71_11 := blk_frozen BK158.out 11
        have hnb72 := NB157_156.out
        have hnc72 := NB156_157.out
        have hcz73_0 : w66.cell? ⟨gb157, 0, none⟩ = some (.int .i64 0) := (blk_cell BK157.out 0).trans rfl
        have hcz73_1 : w66.cell? ⟨gb157, 1, none⟩ = some (.int .i64 0) := (blk_cell BK157.out 1).trans rfl
        have hcz73_2 : w66.cell? ⟨gb157, 2, none⟩ = some (.int .i64 0) := (blk_cell BK157.out 2).trans rfl
        have hcz73_3 : w66.cell? ⟨gb157, 3, none⟩ = some (.int .i64 0) := (blk_cell BK157.out 3).trans rfl
        have hcz73_4 : w66.cell? ⟨gb157, 4, none⟩ = some (.int .i64 0) := (blk_cell BK157.out 4).trans rfl
        have hcz73_5 : w66.cell? ⟨gb157, 5, none⟩ = some (.int .i64 0) := (blk_cell BK157.out 5).trans rfl
        have hcz73_6 : w66.cell? ⟨gb157, 6, none⟩ = some (.int .i64 0) := (blk_cell BK157.out 6).trans rfl
        have hcz73_7 : w66.cell? ⟨gb157, 7, none⟩ = some (.int .i64 0) := (blk_cell BK157.out 7).trans rfl
        have hcz73_8 : w66.cell? ⟨gb157, 8, none⟩ = some (.int .i64 0) := (blk_cell BK157.out 8).trans rfl
        have hcz73_9 : w66.cell? ⟨gb157, 9, none⟩ = some (.int .i64 0) := (blk_cell BK157.out 9).trans rfl
        have hcz73_10 : w66.cell? ⟨gb157, 10, none⟩ = some (.int .i64 0) := (blk_cell BK157.out 10).trans rfl
        have hcz73_11 : w66.cell? ⟨gb157, 11, none⟩ = some (.bool false) := (blk_cell BK157.out 11).trans rfl
        have hfz73_0 := blk_frozen BK157.out 0
        have hfz73_1 := blk_frozen BK157.out 1
        have hfz73_2 := blk_frozen BK157.out 2
        have hfz73_3 := blk_frozen BK157.out 3
        have hfz73_4 := blk_frozen BK157.out 4
        have hfz73_5 := blk_frozen BK157.out 5
        have hfz73_6 := blk_frozen BK157.out 6
        have hfz73_7 := blk_frozen BK157.out 7
        have hfz73_8 := blk_frozen BK157.out 8
        have hfz73_9 := blk_frozen BK157.out 9
        have hfz73_10 := blk_frozen BK157.out 10
        have hfz73_11 := blk_frozen BK157.out 11
        try go_wp2
        refine bodyPost_ret (results_cell_row rfl _ _ gb157 39 #[.int .i64 a0_0, .int .i64 a0_1, .int .i64 0, .int .i64 a0_3, .int .i64 0, .int .i64 0, .int .i64 0, .int .i64 0, .int .i64 0, .int .i64 0, .int .i64 0, .bool false] (0, 0) _ rfl (by (with_reducible repeat (first | apply kN | apply kD | apply kA)); refine blk_put (cs := #[.int .i64 a0_0, .int .i64 a0_1, .int .i64 0, .int .i64 a0_3, .int .i64 0, .int .i64 0, .int .i64 0, .int .i64 0, .int .i64 0, .int .i64 0, .int .i64 0, .bool false]) ?_ 11 _ rfl; (with_reducible repeat (first | apply kN | apply kD | apply kA)); refine blk_put (cs := #[.int .i64 a0_0, .int .i64 a0_1, .int .i64 0, .int .i64 a0_3, .int .i64 0, .int .i64 0, .int .i64 0, .int .i64 0, .int .i64 0, .int .i64 0, .int .i64 0, .bool false]) ?_ 10 _ rfl; (with_reducible repeat (first | apply kN | apply kD | apply kA)); refine blk_put (cs := #[.int .i64 a0_0, .int .i64 a0_1, .int .i64 0, .int .i64 a0_3, .int .i64 0, .int .i64 0, .int .i64 0, .int .i64 0, .int .i64 0, .int .i64 0, .int .i64 0, .bool false]) ?_ 9 _ rfl; (with_reducible repeat (first | apply kN | apply kD | apply kA)); refine blk_put (cs := #[.int .i64 a0_0, .int .i64 a0_1, .int .i64 0, .int .i64 a0_3, .int .i64 0, .int .i64 0, .int .i64 0, .int .i64 0, .int .i64 0, .int .i64 0, .int .i64 0, .bool false]) ?_ 8 _ rfl; (with_reducible repeat (first | apply kN | apply kD | apply kA)); refine blk_put (cs := #[.int .i64 a0_0, .int .i64 a0_1, .int .i64 0, .int .i64 a0_3, .int .i64 0, .int .i64 0, .int .i64 0, .int .i64 0, .int .i64 0, .int .i64 0, .int .i64 0, .bool false]) ?_ 7 _ rfl; (with_reducible repeat (first | apply kN | apply kD | apply kA)); refine blk_put (cs := #[.int .i64 a0_0, .int .i64 a0_1, .int .i64 0, .int .i64 a0_3, .int .i64 0, .int .i64 0, .int .i64 0, .int .i64 0, .int .i64 0, .int .i64 0, .int .i64 0, .bool false]) ?_ 6 _ rfl; (with_reducible repeat (first | apply kN | apply kD | apply kA)); refine blk_put (cs := #[.int .i64 a0_0, .int .i64 a0_1, .int .i64 0, .int .i64 a0_3, .int .i64 0, .int .i64 0, .int .i64 0, .int .i64 0, .int .i64 0, .int .i64 0, .int .i64 0, .bool false]) ?_ 5 _ rfl; (with_reducible repeat (first | apply kN | apply kD | apply kA)); refine blk_put (cs := #[.int .i64 a0_0, .int .i64 a0_1, .int .i64 0, .int .i64 a0_3, .int .i64 0, .int .i64 0, .int .i64 0, .int .i64 0, .int .i64 0, .int .i64 0, .int .i64 0, .bool false]) ?_ 4 _ rfl; (with_reducible repeat (first | apply kN | apply kD | apply kA)); refine blk_put (cs := #[.int .i64 a0_0, .int .i64 a0_1, .int .i64 0, .int .i64 0, .int .i64 0, .int .i64 0, .int .i64 0, .int .i64 0, .int .i64 0, .int .i64 0, .int .i64 0, .bool false]) ?_ 3 _ rfl; (with_reducible repeat (first | apply kN | apply kD | apply kA)); refine blk_put (cs := #[.int .i64 a0_0, .int .i64 a0_1, .int .i64 0, .int .i64 0, .int .i64 0, .int .i64 0, .int .i64 0, .int .i64 0, .int .i64 0, .int .i64 0, .int .i64 0, .bool false]) ?_ 2 _ rfl; (with_reducible repeat (first | apply kN | apply kD | apply kA)); refine blk_put (cs := #[.int .i64 a0_0, .int .i64 0, .int .i64 0, .int .i64 0, .int .i64 0, .int .i64 0, .int .i64 0, .int .i64 0, .int .i64 0, .int .i64 0, .int .i64 0, .bool false]) ?_ 1 _ rfl; (with_reducible repeat (first | apply kN | apply kD | apply kA)); refine blk_put (cs := #[.int .i64 0, .int .i64 0, .int .i64 0, .int .i64 0, .int .i64 0, .int .i64 0, .int .i64 0, .int .i64 0, .int .i64 0, .int .i64 0, .int .i64 0, .bool false]) ?_ 0 _ rfl; (with_reducible repeat (first | apply kN | apply kD | apply kA)); refine blk_far ?_ NB157_158.out _; (with_reducible repeat (first | apply kN | apply kD | apply kA)); refine blk_far ?_ NB157_158.out _; (with_reducible repeat (first | apply kN | apply kD | apply kA)); exact BK157.out) Tryd.underlying39 rfl (by kernel_rfl)) rfl ?_
        exact ⟨by first | rfl | (simp [errW_none, errW_some] <;> rfl) | (simp [*, errW_none, errW_some] <;> rfl), by repeat (first | (with_reducible first | exact HB.out | apply bA | apply bN | apply bD | refine bS ?_ GE156.out | refine bS ?_ GE157.out | refine bS ?_ GE158.out) | exact HB.out)⟩
       ·rw [if_neg c65] at H
        have c65b0 : (a0_0 == 7) = false := beq_eq_false_iff_ne.mpr c65
        have c65b1 : (a0_0 != 7) = true := bne_iff_ne.mpr c65
        by_cases c74 : a0_0 = 8
        ·rw [if_pos c74] at H
         have c74b0 : (a0_0 == 8) = true := beq_iff_eq.mpr c74
         have c74b1 : (a0_0 != 8) = false := bne_eq_false_iff_eq.mpr c74
         clear c74
         simp only [Option.some.injEq, Prod.mk.injEq] at H
         obtain ⟨rfl, rfl, rfl, rfl, rfl, rfl, rfl, rfl, rfl, rfl, rfl, rfl⟩ := H
         try go_wp2
         have n0_ := Aside0.mk (blk_drew BK156.out)
         have n1_ := Aside0.mk (blk_drew BK157.out)
         have n2_ := Aside0.mk (blk_drew BK158.out)
         have n3_ := Aside0.mk (below_drew1 HB.out)
         clear BK156 BK157 BK158 HB
         have BK156 := n0_; have BK157 := n1_; have BK158 := n2_; have HB := n3_
         clear n0_ n1_ n2_ n3_
         refine start_ (n := 8) (S := fun w' => w'.cell? ⟨gb156, 0, none⟩ = some (.int .i64 a0_0) ∧ w'.cell? ⟨gb156, 1, none⟩ = some (.int .i64 a0_1) ∧ w'.cell? ⟨gb156, 2, none⟩ = some (.int .i64 a0_2) ∧ w'.cell? ⟨gb156, 3, none⟩ = some (.int .i64 a0_3) ∧ w'.cell? ⟨gb156, 4, none⟩ = some (.int .i64 a0_4) ∧ w'.cell? ⟨gb156, 5, none⟩ = some (.int .i64 a0_5) ∧ w'.cell? ⟨gb156, 6, none⟩ = some (.int .i64 a0_6) ∧ w'.cell? ⟨gb156, 7, none⟩ = some (.int .i64 a0_7) ∧ w'.cell? ⟨gb156, 8, none⟩ = some (.int .i64 a0_8) ∧ w'.cell? ⟨gb156, 9, none⟩ = some (.int .i64 a0_9) ∧ w'.cell? ⟨gb156, 10, none⟩ = some (.int .i64 a0_10) ∧ w'.cell? ⟨gb156, 11, none⟩ = some (.bool a0_11)) (ds := []) #[false, false, false, false, false, false, false, false] (by kernel_rfl) rfl rfl ⟨(blk_cell BK156.out 0).trans rfl, (blk_cell BK156.out 1).trans rfl, (blk_cell BK156.out 2).trans rfl, (blk_cell BK156.out 3).trans rfl, (blk_cell BK156.out 4).trans rfl, (blk_cell BK156.out 5).trans rfl, (blk_cell BK156.out 6).trans rfl, (blk_cell BK156.out 7).trans rfl, (blk_cell BK156.out 8).trans rfl, (blk_cell BK156.out 9).trans rfl, (blk_cell BK156.out 10).trans rfl, (blk_cell BK156.out 11).trans rfl⟩ (fun hHeld => ?_); refine with_tabW cmd_Command_Clean.tab19 cmd_Command_Clean.bits19 (fun HT_ HW_ => ?_)
         generalize wc.drew = w75 at BK156 BK157 BK158 HB hHeld ⊢
         refine pu 0 (some 73) ?_ HT_ rfl rfl (by kernel_rfl) (fun _ _ _ h => h) (Or.inl ⟨by rfl, ?_⟩) ?_ ?_ ?_
         rotate_left
         ·intro w'; go_simp; with_reducible rfl
         rotate_left
         ·simp only [Act.put, sA, sB, sC, i64_w]; rfl
         refine pu 2 (some 75) ?_ HT_ rfl rfl (by kernel_rfl) (fun _ _ _ h => h) (Or.inl ⟨by rfl, ?_⟩) ?_ ?_ ?_
         rotate_left
         ·intro w'; go_simp; with_reducible rfl
         rotate_left
         ·simp only [Act.put, sA, sB, sC, i64_w]; rfl
         refine tk 1 (some 74) ?_ HT_ HW_ rfl rfl (by kernel_rfl) (fun _ _ _ h => h) (Or.inl ⟨by rfl, ?_⟩) hHeld ?_ ?_ ?_
         rotate_left
         ·rintro w' ⟨s0, s1, s2, s3, s4, s5, s6, s7, s8, s9, s10, s11⟩; go_simp; with_reducible rfl
         rotate_left
         ·simp only [Act.put, sA, sB, sC, i64_w]; rfl
         refine pu 4 (some 77) ?_ HT_ rfl rfl (by kernel_rfl) (fun _ _ _ h => h) (Or.inl ⟨by rfl, ?_⟩) ?_ ?_ ?_
         rotate_left
         ·intro w'; go_simp; with_reducible rfl
         rotate_left
         ·simp only [Act.put, sA, sB, sC, i64_w]; rfl
         refine tk 3 (some 76) ?_ HT_ HW_ rfl rfl (by kernel_rfl) (fun _ _ _ h => h) (Or.inl ⟨by rfl, ?_⟩) hHeld ?_ ?_ ?_
         rotate_left
         ·rintro w' ⟨s0, s1, s2, s3, s4, s5, s6, s7, s8, s9, s10, s11⟩; go_simp; with_reducible rfl
         rotate_left
         ·simp only [Act.put, sA, sB, sC, i64_w]; rfl
         refine on 5 none HT_ rfl rfl (by kernel_rfl) (by decide) (fun K hK => ?_)
         have hs76 : w75.cell? ⟨gb158, 3, none⟩ = some (.int .i64 0) := (blk_cell BK158.out 3).trans rfl
         have hfs76 := blk_frozen BK158.out 3
         have hns76_0 := NB156_158.out
         have hns76_1 := NB157_158.out
         have hms76_0 := NB158_156.out
         have hms76_1 := NB158_157.out
         refine skip_ (w1 := ?_) (by rfl) rfl ?_ ?_
         rotate_left
         ·go_simp
          rfl
         refine hK.out _ _ ⟨((cell_far (p := ⟨gb158, _, none⟩) NB156_158.out _).trans (hHeld.1)), ((cell_far (p := ⟨gb158, _, none⟩) NB156_158.out _).trans (hHeld.2.1)), ((cell_far (p := ⟨gb158, _, none⟩) NB156_158.out _).trans (hHeld.2.2.1)), ((cell_far (p := ⟨gb158, _, none⟩) NB156_158.out _).trans (hHeld.2.2.2.1)), ((cell_far (p := ⟨gb158, _, none⟩) NB156_158.out _).trans (hHeld.2.2.2.2.1)), ((cell_far (p := ⟨gb158, _, none⟩) NB156_158.out _).trans (hHeld.2.2.2.2.2.1)), ((cell_far (p := ⟨gb158, _, none⟩) NB156_158.out _).trans (hHeld.2.2.2.2.2.2.1)), ((cell_far (p := ⟨gb158, _, none⟩) NB156_158.out _).trans (hHeld.2.2.2.2.2.2.2.1)), ((cell_far (p := ⟨gb158, _, none⟩) NB156_158.out _).trans (hHeld.2.2.2.2.2.2.2.2.1)), ((cell_far (p := ⟨gb158, _, none⟩) NB156_158.out _).trans (hHeld.2.2.2.2.2.2.2.2.2.1)), ((cell_far (p := ⟨gb158, _, none⟩) NB156_158.out _).trans (hHeld.2.2.2.2.2.2.2.2.2.2.1)), ((cell_far (p := ⟨gb158, _, none⟩) NB156_158.out _).trans (hHeld.2.2.2.2.2.2.2.2.2.2.2))⟩ (fun hHeld => ?_)
         clear hK K
         refine pu 6 (some 78) ?_ HT_ rfl rfl (by kernel_rfl) (fun _ _ _ h => h) (Or.inl ⟨by rfl, ?_⟩) ?_ ?_ ?_
         rotate_left
         ·intro w'; go_simp; with_reducible rfl
         rotate_left
         ·simp only [Act.put, sA, sB, sC, i64_w]; rfl
         refine on 7 none HT_ rfl rfl (by kernel_rfl) (by decide) (fun K hK => ?_)
         have hs77 : w75.cell? ⟨gb158, 4, none⟩ = some (.int .i64 0) := (blk_cell BK158.out 4).trans rfl
         have hfs77 := blk_frozen BK158.out 4
         have hns77_0 := NB156_158.out
         have hns77_1 := NB157_158.out
         have hms77_0 := NB158_156.out
         have hms77_1 := NB158_157.out
         refine skip_ (w1 := ?_) (by rfl) rfl ?_ ?_
         rotate_left
         ·go_simp
          rfl
         refine hK.out _ _ ⟨((cell_far (p := ⟨gb158, _, none⟩) NB156_158.out _).trans (hHeld.1)), ((cell_far (p := ⟨gb158, _, none⟩) NB156_158.out _).trans (hHeld.2.1)), ((cell_far (p := ⟨gb158, _, none⟩) NB156_158.out _).trans (hHeld.2.2.1)), ((cell_far (p := ⟨gb158, _, none⟩) NB156_158.out _).trans (hHeld.2.2.2.1)), ((cell_far (p := ⟨gb158, _, none⟩) NB156_158.out _).trans (hHeld.2.2.2.2.1)), ((cell_far (p := ⟨gb158, _, none⟩) NB156_158.out _).trans (hHeld.2.2.2.2.2.1)), ((cell_far (p := ⟨gb158, _, none⟩) NB156_158.out _).trans (hHeld.2.2.2.2.2.2.1)), ((cell_far (p := ⟨gb158, _, none⟩) NB156_158.out _).trans (hHeld.2.2.2.2.2.2.2.1)), ((cell_far (p := ⟨gb158, _, none⟩) NB156_158.out _).trans (hHeld.2.2.2.2.2.2.2.2.1)), ((cell_far (p := ⟨gb158, _, none⟩) NB156_158.out _).trans (hHeld.2.2.2.2.2.2.2.2.2.1)), ((cell_far (p := ⟨gb158, _, none⟩) NB156_158.out _).trans (hHeld.2.2.2.2.2.2.2.2.2.2.1)), ((cell_far (p := ⟨gb158, _, none⟩) NB156_158.out _).trans (hHeld.2.2.2.2.2.2.2.2.2.2.2))⟩ (fun hHeld => ?_)
         clear hK K
         refine done_ (done_of HT_.out (by kernel_rfl)) ?_
         have hnb78 := NB158_156.out
         have hnc78 := NB156_158.out
         have hnb79 := NB158_157.out
         have hnc79 := NB157_158.out
         have hcz80_0 : w75.cell? ⟨gb158, 0, none⟩ = some (.int .i64 a0_0) := (blk_cell BK158.out 0).trans rfl
         have hcz80_1 : w75.cell? ⟨gb158, 1, none⟩ = some (.int .i64 0) := (blk_cell BK158.out 1).trans rfl
         have hcz80_2 : w75.cell? ⟨gb158, 2, none⟩ = some (.int .i64 0) := (blk_cell BK158.out 2).trans rfl
         have hcz80_3 : w75.cell? ⟨gb158, 3, none⟩ = some (.int .i64 0) := (blk_cell BK158.out 3).trans rfl
         have hcz80_4 : w75.cell? ⟨gb158, 4, none⟩ = some (.int .i64 0) := (blk_cell BK158.out 4).trans rfl
         have hcz80_5 : w75.cell? ⟨gb158, 5, none⟩ = some (.int .i64 0) := (blk_cell BK158.out 5).trans rfl
         have hcz80_6 : w75.cell? ⟨gb158, 6, none⟩ = some (.int .i64 0) := (blk_cell BK158.out 6).trans rfl
         have hcz80_7 : w75.cell? ⟨gb158, 7, none⟩ = some (.int .i64 0) := (blk_cell BK158.out 7).trans rfl
         have hcz80_8 : w75.cell? ⟨gb158, 8, none⟩ = some (.int .i64 0) := (blk_cell BK158.out 8).trans rfl
         have hcz80_9 : w75.cell? ⟨gb158, 9, none⟩ = some (.int .i64 0) := (blk_cell BK158.out 9).trans rfl
         have hcz80_10 : w75.cell? ⟨gb158, 10, none⟩ = some (.int .i64 0) := (blk_cell BK158.out 10).trans rfl
         have hcz80_11 : w75.cell? ⟨gb158, 11, none⟩ = some (.bool false) := (blk_cell BK158.out 11).trans rfl
         have hfz80_0 := blk_frozen BK158.out 0
         have hfz80_1 := blk_frozen BK158.out 1
         have hfz80_2 := blk_frozen BK158.out 2
         have hfz80_3 := blk_frozen BK158.out 3
         have hfz80_4 := blk_frozen BK158.out 4
         have hfz80_5 := blk_frozen BK158.out 5
         have hfz80_6 := blk_frozen BK158.out 6
         have hfz80_7 := blk_frozen BK158.out 7
         have hfz80_8 := blk_frozen BK158.out 8
         have hfz80_9 := blk_frozen BK158.out 9
         have hfz80_10 := blk_frozen BK158.out 10
         have hfz80_11 := blk_frozen BK158.out 11
         have hnb81 := NB157_156.out
         have hnc81 := NB156_157.out
         have hcz82_0 : w75.cell? ⟨gb157, 0, none⟩ = some (.int .i64 0) := (blk_cell BK157.out 0).trans rfl
         have hcz82_1 : w75.cell? ⟨gb157, 1, none⟩ = some (.int .i64 0) := (blk_cell BK157.out 1).trans rfl
         have hcz82_2 : w75.cell? ⟨gb157, 2, none⟩ = some (.int .i64 0) := (blk_cell BK157.out 2).trans rfl
         have hcz82_3 : w75.cell? ⟨gb157, 3, none⟩ = some (.int .i64 0) := (blk_cell BK157.out 3).trans rfl
         have hcz82_4 : w75.cell? ⟨gb157, 4, none⟩ = some (.int .i64 0) := (blk_cell BK157.out 4).trans rfl
         have hcz82_5 : w75.cell? ⟨gb157, 5, none⟩ = some (.int .i64 0) := (blk_cell BK157.out 5).trans rfl
         have hcz82_6 : w75.cell? ⟨gb157, 6, none⟩ = some (.int .i64 0) := (blk_cell BK157.out 6).trans rfl
         have hcz82_7 : w75.cell? ⟨gb157, 7, none⟩ = some (.int .i64 0) := (blk_cell BK157.out 7).trans rfl
         have hcz82_8 : w75.cell? ⟨gb157, 8, none⟩ = some (.int .i64 0) := (blk_cell BK157.out 8).trans rfl
         have hcz82_9 : w75.cell? ⟨gb157, 9, none⟩ = some (.int .i64 0) := (blk_cell BK157.out 9).trans rfl
         have hcz82_10 : w75.cell? ⟨gb157, 10, none⟩ = some (.int .i64 0) := (blk_cell BK157.out 10).trans rfl
         have hcz82_11 : w75.cell? ⟨gb157, 11, none⟩ = some (.bool false) := (blk_cell BK157.out 11).trans rfl
         have hfz82_0 := blk_frozen BK157.out 0
         have hfz82_1 := blk_frozen BK157.out 1
         have hfz82_2 := blk_frozen BK157.out 2
         have hfz82_3 := blk_frozen BK157.out 3
         have hfz82_4 := blk_frozen BK157.out 4
         have hfz82_5 := blk_frozen BK157.out 5
         have hfz82_6 := blk_frozen BK157.out 6
         have hfz82_7 := blk_frozen BK157.out 7
         have hfz82_8 := blk_frozen BK157.out 8
         have hfz82_9 := blk_frozen BK157.out 9
         have hfz82_10 := blk_frozen BK157.out 10
         have hfz82_11 := blk_frozen BK157.out 11
         try go_wp2
         refine bodyPost_ret (results_cell_row rfl _ _ gb157 39 #[.int .i64 a0_0, .int .i64 0, .int .i64 0, .int .i64 a0_3, .int .i64 a0_4, .int .i64 0, .int .i64 0, .int .i64 0, .int .i64 0, .int .i64 0, .int .i64 0, .bool false] (0, 0) _ rfl (by (with_reducible repeat (first | apply kN | apply kD | apply kA)); refine blk_put (cs := #[.int .i64 a0_0, .int .i64 0, .int .i64 0, .int .i64 a0_3, .int .i64 a0_4, .int .i64 0, .int .i64 0, .int .i64 0, .int .i64 0, .int .i64 0, .int .i64 0, .bool false]) ?_ 11 _ rfl; (with_reducible repeat (first | apply kN | apply kD | apply kA)); refine blk_put (cs := #[.int .i64 a0_0, .int .i64 0, .int .i64 0, .int .i64 a0_3, .int .i64 a0_4, .int .i64 0, .int .i64 0, .int .i64 0, .int .i64 0, .int .i64 0, .int .i64 0, .bool false]) ?_ 10 _ rfl; (with_reducible repeat (first | apply kN | apply kD | apply kA)); refine blk_put (cs := #[.int .i64 a0_0, .int .i64 0, .int .i64 0, .int .i64 a0_3, .int .i64 a0_4, .int .i64 0, .int .i64 0, .int .i64 0, .int .i64 0, .int .i64 0, .int .i64 0, .bool false]) ?_ 9 _ rfl; (with_reducible repeat (first | apply kN | apply kD | apply kA)); refine blk_put (cs := #[.int .i64 a0_0, .int .i64 0, .int .i64 0, .int .i64 a0_3, .int .i64 a0_4, .int .i64 0, .int .i64 0, .int .i64 0, .int .i64 0, .int .i64 0, .int .i64 0, .bool false]) ?_ 8 _ rfl; (with_reducible repeat (first | apply kN | apply kD | apply kA)); refine blk_put (cs := #[.int .i64 a0_0, .int .i64 0, .int .i64 0, .int .i64 a0_3, .int .i64 a0_4, .int .i64 0, .int .i64 0, .int .i64 0, .int .i64 0, .int .i64 0, .int .i64 0, .bool false]) ?_ 7 _ rfl; (with_reducible repeat (first | apply kN | apply kD | apply kA)); refine blk_put (cs := #[.int .i64 a0_0, .int .i64 0, .int .i64 0, .int .i64 a0_3, .int .i64 a0_4, .int .i64 0, .int .i64 0, .int .i64 0, .int .i64 0, .int .i64 0, .int .i64 0, .bool false]) ?_ 6 _ rfl; (with_reducible repeat (first | apply kN | apply kD | apply kA)); refine blk_put (cs := #[.int .i64 a0_0, .int .i64 0, .int .i64 0, .int .i64 a0_3, .int .i64 a0_4, .int .i64 0, .int .i64 0, .int .i64 0, .int .i64 0, .int .i64 0, .int .i64 0, .bool false]) ?_ 5 _ rfl; (with_reducible repeat (first | apply kN | apply kD | apply kA)); refine blk_put (cs := #[.int .i64 a0_0, .int .i64 0, .int .i64 0, .int .i64 a0_3, .int .i64 0, .int .i64 0, .int .i64 0, .int .i64 0, .int .i64 0, .int .i64 0, .int .i64 0, .bool false]) ?_ 4 _ rfl; (with_reducible repeat (first | apply kN | apply kD | apply kA)); refine blk_put (cs := #[.int .i64 a0_0, .int .i64 0, .int .i64 0, .int .i64 0, .int .i64 0, .int .i64 0, .int .i64 0, .int .i64 0, .int .i64 0, .int .i64 0, .int .i64 0, .bool false]) ?_ 3 _ rfl; (with_reducible repeat (first | apply kN | apply kD | apply kA)); refine blk_put (cs := #[.int .i64 a0_0, .int .i64 0, .int .i64 0, .int .i64 0, .int .i64 0, .int .i64 0, .int .i64 0, .int .i64 0, .int .i64 0, .int .i64 0, .int .i64 0, .bool false]) ?_ 2 _ rfl; (with_reducible repeat (first | apply kN | apply kD | apply kA)); refine blk_put (cs := #[.int .i64 a0_0, .int .i64 0, .int .i64 0, .int .i64 0, .int .i64 0, .int .i64 0, .int .i64 0, .int .i64 0, .int .i64 0, .int .i64 0, .int .i64 0, .bool false]) ?_ 1 _ rfl; (with_reducible repeat (first | apply kN | apply kD | apply kA)); refine blk_put (cs := #[.int .i64 0, .int .i64 0, .int .i64 0, .int .i64 0, .int .i64 0, .int .i64 0, .int .i64 0, .int .i64 0, .int .i64 0, .int .i64 0, .int .i64 0, .bool false]) ?_ 0 _ rfl; (with_reducible repeat (first | apply kN | apply kD | apply kA)); refine blk_far ?_ NB157_158.out _; (with_reducible repeat (first | apply kN | apply kD | apply kA)); refine blk_far ?_ NB157_158.out _; (with_reducible repeat (first | apply kN | apply kD | apply kA)); exact BK157.out) Tryd.underlying39 rfl (by kernel_rfl)) rfl ?_
         exact ⟨by first | rfl | (simp [errW_none, errW_some] <;> rfl) | (simp [*, errW_none, errW_some] <;> rfl), by repeat (first | (with_reducible first | exact HB.out | apply bA | apply bN | apply bD | refine bS ?_ GE156.out | refine bS ?_ GE157.out | refine bS ?_ GE158.out) | exact HB.out)⟩
        ·rw [if_neg c74] at H
         have c74b0 : (a0_0 == 8) = false := beq_eq_false_iff_ne.mpr c74
         have c74b1 : (a0_0 != 8) = true := bne_iff_ne.mpr c74
         by_cases c83 : a0_0 = 9
         ·rw [if_pos c83] at H
          have c83b0 : (a0_0 == 9) = true := beq_iff_eq.mpr c83
          have c83b1 : (a0_0 != 9) = false := bne_eq_false_iff_eq.mpr c83
          clear c83
          simp only [Option.some.injEq, Prod.mk.injEq] at H
          obtain ⟨rfl, rfl, rfl, rfl, rfl, rfl, rfl, rfl, rfl, rfl, rfl, rfl⟩ := H
          have hnb84 := NB156_157.out
          have hnc84 := NB157_156.out
          have hnb85 := NB156_158.out
          have hnc85 := NB158_156.out
          have hcz86_0 : wc.cell? ⟨gb156, 0, none⟩ = some (.int .i64 a0_0) := (blk_cell BK156.out 0).trans rfl
          have hcz86_1 : wc.cell? ⟨gb156, 1, none⟩ = some (.int .i64 a0_1) := (blk_cell BK156.out 1).trans rfl
          have hcz86_2 : wc.cell? ⟨gb156, 2, none⟩ = some (.int .i64 a0_2) := (blk_cell BK156.out 2).trans rfl
          have hcz86_3 : wc.cell? ⟨gb156, 3, none⟩ = some (.int .i64 a0_3) := (blk_cell BK156.out 3).trans rfl
          have hcz86_4 : wc.cell? ⟨gb156, 4, none⟩ = some (.int .i64 a0_4) := (blk_cell BK156.out 4).trans rfl
          have hcz86_5 : wc.cell? ⟨gb156, 5, none⟩ = some (.int .i64 a0_5) := (blk_cell BK156.out 5).trans rfl
          have hcz86_6 : wc.cell? ⟨gb156, 6, none⟩ = some (.int .i64 a0_6) := (blk_cell BK156.out 6).trans rfl
          have hcz86_7 : wc.cell? ⟨gb156, 7, none⟩ = some (.int .i64 a0_7) := (blk_cell BK156.out 7).trans rfl
          have hcz86_8 : wc.cell? ⟨gb156, 8, none⟩ = some (.int .i64 a0_8) := (blk_cell BK156.out 8).trans rfl
          have hcz86_9 : wc.cell? ⟨gb156, 9, none⟩ = some (.int .i64 a0_9) := (blk_cell BK156.out 9).trans rfl
          have hcz86_10 : wc.cell? ⟨gb156, 10, none⟩ = some (.int .i64 a0_10) := (blk_cell BK156.out 10).trans rfl
          have hcz86_11 : wc.cell? ⟨gb156, 11, none⟩ = some (.bool a0_11) := (blk_cell BK156.out 11).trans rfl
          have hfz86_0 := blk_frozen BK156.out 0
          have hfz86_1 := blk_frozen BK156.out 1
          have hfz86_2 := blk_frozen BK156.out 2
          have hfz86_3 := blk_frozen BK156.out 3
          have hfz86_4 := blk_frozen BK156.out 4
          have hfz86_5 := blk_frozen BK156.out 5
          have hfz86_6 := blk_frozen BK156.out 6
          have hfz86_7 := blk_frozen BK156.out 7
          have hfz86_8 := blk_frozen BK156.out 8
          have hfz86_9 := blk_frozen BK156.out 9
          have hfz86_10 := blk_frozen BK156.out 10
          have hfz86_11 := blk_frozen BK156.out 11
          have hnb87 := NB158_157.out
          have hnc87 := NB157_158.out
          have hcz88_0 : wc.cell? ⟨gb158, 0, none⟩ = some (.int .i64 a0_0) := (blk_cell BK158.out 0).trans rfl
          have hcz88_1 : wc.cell? ⟨gb158, 1, none⟩ = some (.int .i64 0) := (blk_cell BK158.out 1).trans rfl
          have hcz88_2 : wc.cell? ⟨gb158, 2, none⟩ = some (.int .i64 0) := (blk_cell BK158.out 2).trans rfl
          have hcz88_3 : wc.cell? ⟨gb158, 3, none⟩ = some (.int .i64 0) := (blk_cell BK158.out 3).trans rfl
          have hcz88_4 : wc.cell? ⟨gb158, 4, none⟩ = some (.int .i64 0) := (blk_cell BK158.out 4).trans rfl
          have hcz88_5 : wc.cell? ⟨gb158, 5, none⟩ = some (.int .i64 0) := (blk_cell BK158.out 5).trans rfl
          have hcz88_6 : wc.cell? ⟨gb158, 6, none⟩ = some (.int .i64 0) := (blk_cell BK158.out 6).trans rfl
          have hcz88_7 : wc.cell? ⟨gb158, 7, none⟩ = some (.int .i64 0) := (blk_cell BK158.out 7).trans rfl
          have hcz88_8 : wc.cell? ⟨gb158, 8, none⟩ = some (.int .i64 0) := (blk_cell BK158.out 8).trans rfl
          have hcz88_9 : wc.cell? ⟨gb158, 9, none⟩ = some (.int .i64 0) := (blk_cell BK158.out 9).trans rfl
          have hcz88_10 : wc.cell? ⟨gb158, 10, none⟩ = some (.int .i64 0) := (blk_cell BK158.out 10).trans rfl
          have hcz88_11 : wc.cell? ⟨gb158, 11, none⟩ = some (.bool false) := (blk_cell BK158.out 11).trans rfl
          have hfz88_0 := blk_frozen BK158.out 0
          have hfz88_1 := blk_frozen BK158.out 1
          have hfz88_2 := blk_frozen BK158.out 2
          have hfz88_3 := blk_frozen BK158.out 3
          have hfz88_4 := blk_frozen BK158.out 4
          have hfz88_5 := blk_frozen BK158.out 5
          have hfz88_6 := blk_frozen BK158.out 6
          have hfz88_7 := blk_frozen BK158.out 7
          have hfz88_8 := blk_frozen BK158.out 8
          have hfz88_9 := blk_frozen BK158.out 9
          have hfz88_10 := blk_frozen BK158.out 10
          have hfz88_11 := blk_frozen BK158.out 11
          have hcz89_0 : wc.cell? ⟨gb157, 0, none⟩ = some (.int .i64 0) := (blk_cell BK157.out 0).trans rfl
          have hcz89_1 : wc.cell? ⟨gb157, 1, none⟩ = some (.int .i64 0) := (blk_cell BK157.out 1).trans rfl
          have hcz89_2 : wc.cell? ⟨gb157, 2, none⟩ = some (.int .i64 0) := (blk_cell BK157.out 2).trans rfl
          have hcz89_3 : wc.cell? ⟨gb157, 3, none⟩ = some (.int .i64 0) := (blk_cell BK157.out 3).trans rfl
          have hcz89_4 : wc.cell? ⟨gb157, 4, none⟩ = some (.int .i64 0) := (blk_cell BK157.out 4).trans rfl
          have hcz89_5 : wc.cell? ⟨gb157, 5, none⟩ = some (.int .i64 0) := (blk_cell BK157.out 5).trans rfl
          have hcz89_6 : wc.cell? ⟨gb157, 6, none⟩ = some (.int .i64 0) := (blk_cell BK157.out 6).trans rfl
          have hcz89_7 : wc.cell? ⟨gb157, 7, none⟩ = some (.int .i64 0) := (blk_cell BK157.out 7).trans rfl
          have hcz89_8 : wc.cell? ⟨gb157, 8, none⟩ = some (.int .i64 0) := (blk_cell BK157.out 8).trans rfl
          have hcz89_9 : wc.cell? ⟨gb157, 9, none⟩ = some (.int .i64 0) := (blk_cell BK157.out 9).trans rfl
          have hcz89_10 : wc.cell? ⟨gb157, 10, none⟩ = some (.int .i64 0) := (blk_cell BK157.out 10).trans rfl
          have hcz89_11 : wc.cell? ⟨gb157, 11, none⟩ = some (.bool false) := (blk_cell BK157.out 11).trans rfl
          have hfz89_0 := blk_frozen BK157.out 0
          have hfz89_1 := blk_frozen BK157.out 1
          have hfz89_2 := blk_frozen BK157.out 2
          have hfz89_3 := blk_frozen BK157.out 3
          have hfz89_4 := blk_frozen BK157.out 4
          have hfz89_5 := blk_frozen BK157.out 5
          have hfz89_6 := blk_frozen BK157.out 6
          have hfz89_7 := blk_frozen BK157.out 7
          have hfz89_8 := blk_frozen BK157.out 8
          have hfz89_9 := blk_frozen BK157.out 9
          have hfz89_10 := blk_frozen BK157.out 10
          have hfz89_11 := blk_frozen BK157.out 11
          go_wp2
          refine bodyPost_ret (results_cell_row rfl _ _ gb157 39 #[.int .i64 a0_0, .int .i64 0, .int .i64 0, .int .i64 a0_3, .int .i64 0, .int .i64 0, .int .i64 0, .int .i64 0, .int .i64 0, .int .i64 0, .int .i64 0, .bool false] (0, 0) _ rfl (by (with_reducible repeat (first | apply kN | apply kD | apply kA)); refine blk_put (cs := #[.int .i64 a0_0, .int .i64 0, .int .i64 0, .int .i64 a0_3, .int .i64 0, .int .i64 0, .int .i64 0, .int .i64 0, .int .i64 0, .int .i64 0, .int .i64 0, .bool false]) ?_ 11 _ rfl; (with_reducible repeat (first | apply kN | apply kD | apply kA)); refine blk_put (cs := #[.int .i64 a0_0, .int .i64 0, .int .i64 0, .int .i64 a0_3, .int .i64 0, .int .i64 0, .int .i64 0, .int .i64 0, .int .i64 0, .int .i64 0, .int .i64 0, .bool false]) ?_ 10 _ rfl; (with_reducible repeat (first | apply kN | apply kD | apply kA)); refine blk_put (cs := #[.int .i64 a0_0, .int .i64 0, .int .i64 0, .int .i64 a0_3, .int .i64 0, .int .i64 0, .int .i64 0, .int .i64 0, .int .i64 0, .int .i64 0, .int .i64 0, .bool false]) ?_ 9 _ rfl; (with_reducible repeat (first | apply kN | apply kD | apply kA)); refine blk_put (cs := #[.int .i64 a0_0, .int .i64 0, .int .i64 0, .int .i64 a0_3, .int .i64 0, .int .i64 0, .int .i64 0, .int .i64 0, .int .i64 0, .int .i64 0, .int .i64 0, .bool false]) ?_ 8 _ rfl; (with_reducible repeat (first | apply kN | apply kD | apply kA)); refine blk_put (cs := #[.int .i64 a0_0, .int .i64 0, .int .i64 0, .int .i64 a0_3, .int .i64 0, .int .i64 0, .int .i64 0, .int .i64 0, .int .i64 0, .int .i64 0, .int .i64 0, .bool false]) ?_ 7 _ rfl; (with_reducible repeat (first | apply kN | apply kD | apply kA)); refine blk_put (cs := #[.int .i64 a0_0, .int .i64 0, .int .i64 0, .int .i64 a0_3, .int .i64 0, .int .i64 0, .int .i64 0, .int .i64 0, .int .i64 0, .int .i64 0, .int .i64 0, .bool false]) ?_ 6 _ rfl; (with_reducible repeat (first | apply kN | apply kD | apply kA)); refine blk_put (cs := #[.int .i64 a0_0, .int .i64 0, .int .i64 0, .int .i64 a0_3, .int .i64 0, .int .i64 0, .int .i64 0, .int .i64 0, .int .i64 0, .int .i64 0, .int .i64 0, .bool false]) ?_ 5 _ rfl; (with_reducible repeat (first | apply kN | apply kD | apply kA)); refine blk_put (cs := #[.int .i64 a0_0, .int .i64 0, .int .i64 0, .int .i64 a0_3, .int .i64 0, .int .i64 0, .int .i64 0, .int .i64 0, .int .i64 0, .int .i64 0, .int .i64 0, .bool false]) ?_ 4 _ rfl; (with_reducible repeat (first | apply kN | apply kD | apply kA)); refine blk_put (cs := #[.int .i64 a0_0, .int .i64 0, .int .i64 0, .int .i64 0, .int .i64 0, .int .i64 0, .int .i64 0, .int .i64 0, .int .i64 0, .int .i64 0, .int .i64 0, .bool false]) ?_ 3 _ rfl; (with_reducible repeat (first | apply kN | apply kD | apply kA)); refine blk_put (cs := #[.int .i64 a0_0, .int .i64 0, .int .i64 0, .int .i64 0, .int .i64 0, .int .i64 0, .int .i64 0, .int .i64 0, .int .i64 0, .int .i64 0, .int .i64 0, .bool false]) ?_ 2 _ rfl; (with_reducible repeat (first | apply kN | apply kD | apply kA)); refine blk_put (cs := #[.int .i64 a0_0, .int .i64 0, .int .i64 0, .int .i64 0, .int .i64 0, .int .i64 0, .int .i64 0, .int .i64 0, .int .i64 0, .int .i64 0, .int .i64 0, .bool false]) ?_ 1 _ rfl; (with_reducible repeat (first | apply kN | apply kD | apply kA)); refine blk_put (cs := #[.int .i64 0, .int .i64 0, .int .i64 0, .int .i64 0, .int .i64 0, .int .i64 0, .int .i64 0, .int .i64 0, .int .i64 0, .int .i64 0, .int .i64 0, .bool false]) ?_ 0 _ rfl; (with_reducible repeat (first | apply kN | apply kD | apply kA)); refine blk_far ?_ NB157_158.out _; (with_reducible repeat (first | apply kN | apply kD | apply kA)); exact BK157.out) Tryd.underlying39 rfl (by kernel_rfl)) rfl ?_
          exact ⟨by first | rfl | (simp [errW_none, errW_some] <;> rfl) | (simp [*, errW_none, errW_some] <;> rfl), by repeat (first | (with_reducible first | exact HB.out | apply bA | apply bN | apply bD | refine bS ?_ GE156.out | refine bS ?_ GE157.out | refine bS ?_ GE158.out) | exact HB.out)⟩
         ·rw [if_neg c83] at H
          have c83b0 : (a0_0 == 9) = false := beq_eq_false_iff_ne.mpr c83
          have c83b1 : (a0_0 != 9) = true := bne_iff_ne.mpr c83
          by_cases c90 : a0_0 = 10
          ·rw [if_pos c90] at H
           have c90b0 : (a0_0 == 10) = true := beq_iff_eq.mpr c90
           have c90b1 : (a0_0 != 10) = false := bne_eq_false_iff_eq.mpr c90
           clear c90
           simp only [Option.some.injEq, Prod.mk.injEq] at H
           obtain ⟨rfl, rfl, rfl, rfl, rfl, rfl, rfl, rfl, rfl, rfl, rfl, rfl⟩ := H
           have hnb91 := NB156_157.out
           have hnc91 := NB157_156.out
           have hnb92 := NB156_158.out
           have hnc92 := NB158_156.out
           have hcz93_0 : wc.cell? ⟨gb156, 0, none⟩ = some (.int .i64 a0_0) := (blk_cell BK156.out 0).trans rfl
           have hcz93_1 : wc.cell? ⟨gb156, 1, none⟩ = some (.int .i64 a0_1) := (blk_cell BK156.out 1).trans rfl
           have hcz93_2 : wc.cell? ⟨gb156, 2, none⟩ = some (.int .i64 a0_2) := (blk_cell BK156.out 2).trans rfl
           have hcz93_3 : wc.cell? ⟨gb156, 3, none⟩ = some (.int .i64 a0_3) := (blk_cell BK156.out 3).trans rfl
           have hcz93_4 : wc.cell? ⟨gb156, 4, none⟩ = some (.int .i64 a0_4) := (blk_cell BK156.out 4).trans rfl
           have hcz93_5 : wc.cell? ⟨gb156, 5, none⟩ = some (.int .i64 a0_5) := (blk_cell BK156.out 5).trans rfl
           have hcz93_6 : wc.cell? ⟨gb156, 6, none⟩ = some (.int .i64 a0_6) := (blk_cell BK156.out 6).trans rfl
           have hcz93_7 : wc.cell? ⟨gb156, 7, none⟩ = some (.int .i64 a0_7) := (blk_cell BK156.out 7).trans rfl
           have hcz93_8 : wc.cell? ⟨gb156, 8, none⟩ = some (.int .i64 a0_8) := (blk_cell BK156.out 8).trans rfl
           have hcz93_9 : wc.cell? ⟨gb156, 9, none⟩ = some (.int .i64 a0_9) := (blk_cell BK156.out 9).trans rfl
           have hcz93_10 : wc.cell? ⟨gb156, 10, none⟩ = some (.int .i64 a0_10) := (blk_cell BK156.out 10).trans rfl
           have hcz93_11 : wc.cell? ⟨gb156, 11, none⟩ = some (.bool a0_11) := (blk_cell BK156.out 11).trans rfl
           have hfz93_0 := blk_frozen BK156.out 0
           have hfz93_1 := blk_frozen BK156.out 1
           have hfz93_2 := blk_frozen BK156.out 2
           have hfz93_3 := blk_frozen BK156.out 3
           have hfz93_4 := blk_frozen BK156.out 4
           have hfz93_5 := blk_frozen BK156.out 5
           have hfz93_6 := blk_frozen BK156.out 6
           have hfz93_7 := blk_frozen BK156.out 7
           have hfz93_8 := blk_frozen BK156.out 8
           have hfz93_9 := blk_frozen BK156.out 9
           have hfz93_10 := blk_frozen BK156.out 10
           have hfz93_11 := blk_frozen BK156.out 11
           have hnb94 := NB158_157.out
           have hnc94 := NB157_158.out
           have hcz95_0 : wc.cell? ⟨gb158, 0, none⟩ = some (.int .i64 a0_0) := (blk_cell BK158.out 0).trans rfl
           have hcz95_1 : wc.cell? ⟨gb158, 1, none⟩ = some (.int .i64 0) := (blk_cell BK158.out 1).trans rfl
           have hcz95_2 : wc.cell? ⟨gb158, 2, none⟩ = some (.int .i64 0) := (blk_cell BK158.out 2).trans rfl
           have hcz95_3 : wc.cell? ⟨gb158, 3, none⟩ = some (.int .i64 0) := (blk_cell BK158.out 3).trans rfl
           have hcz95_4 : wc.cell? ⟨gb158, 4, none⟩ = some (.int .i64 0) := (blk_cell BK158.out 4).trans rfl
           have hcz95_5 : wc.cell? ⟨gb158, 5, none⟩ = some (.int .i64 0) := (blk_cell BK158.out 5).trans rfl
           have hcz95_6 : wc.cell? ⟨gb158, 6, none⟩ = some (.int .i64 0) := (blk_cell BK158.out 6).trans rfl
           have hcz95_7 : wc.cell? ⟨gb158, 7, none⟩ = some (.int .i64 0) := (blk_cell BK158.out 7).trans rfl
           have hcz95_8 : wc.cell? ⟨gb158, 8, none⟩ = some (.int .i64 0) := (blk_cell BK158.out 8).trans rfl
           have hcz95_9 : wc.cell? ⟨gb158, 9, none⟩ = some (.int .i64 0) := (blk_cell BK158.out 9).trans rfl
           have hcz95_10 : wc.cell? ⟨gb158, 10, none⟩ = some (.int .i64 0) := (blk_cell BK158.out 10).trans rfl
           have hcz95_11 : wc.cell? ⟨gb158, 11, none⟩ = some (.bool false) := (blk_cell BK158.out 11).trans rfl
           have hfz95_0 := blk_frozen BK158.out 0
           have hfz95_1 := blk_frozen BK158.out 1
           have hfz95_2 := blk_frozen BK158.out 2
           have hfz95_3 := blk_frozen BK158.out 3
           have hfz95_4 := blk_frozen BK158.out 4
           have hfz95_5 := blk_frozen BK158.out 5
           have hfz95_6 := blk_frozen BK158.out 6
           have hfz95_7 := blk_frozen BK158.out 7
           have hfz95_8 := blk_frozen BK158.out 8
           have hfz95_9 := blk_frozen BK158.out 9
           have hfz95_10 := blk_frozen BK158.out 10
           have hfz95_11 := blk_frozen BK158.out 11
           have hcz96_0 : wc.cell? ⟨gb157, 0, none⟩ = some (.int .i64 0) := (blk_cell BK157.out 0).trans rfl
           have hcz96_1 : wc.cell? ⟨gb157, 1, none⟩ = some (.int .i64 0) := (blk_cell BK157.out 1).trans rfl
           have hcz96_2 : wc.cell? ⟨gb157, 2, none⟩ = some (.int .i64 0) := (blk_cell BK157.out 2).trans rfl
           have hcz96_3 : wc.cell? ⟨gb157, 3, none⟩ = some (.int .i64 0) := (blk_cell BK157.out 3).trans rfl
           have hcz96_4 : wc.cell? ⟨gb157, 4, none⟩ = some (.int .i64 0) := (blk_cell BK157.out 4).trans rfl
           have hcz96_5 : wc.cell? ⟨gb157, 5, none⟩ = some (.int .i64 0) := (blk_cell BK157.out 5).trans rfl
           have hcz96_6 : wc.cell? ⟨gb157, 6, none⟩ = some (.int .i64 0) := (blk_cell BK157.out 6).trans rfl
           have hcz96_7 : wc.cell? ⟨gb157, 7, none⟩ = some (.int .i64 0) := (blk_cell BK157.out 7).trans rfl
           have hcz96_8 : wc.cell? ⟨gb157, 8, none⟩ = some (.int .i64 0) := (blk_cell BK157.out 8).trans rfl
           have hcz96_9 : wc.cell? ⟨gb157, 9, none⟩ = some (.int .i64 0) := (blk_cell BK157.out 9).trans rfl
           have hcz96_10 : wc.cell? ⟨gb157, 10, none⟩ = some (.int .i64 0) := (blk_cell BK157.out 10).trans rfl
           have hcz96_11 : wc.cell? ⟨gb157, 11, none⟩ = some (.bool false) := (blk_cell BK157.out 11).trans rfl
           have hfz96_0 := blk_frozen BK157.out 0
           have hfz96_1 := blk_frozen BK157.out 1
           have hfz96_2 := blk_frozen BK157.out 2
           have hfz96_3 := blk_frozen BK157.out 3
           have hfz96_4 := blk_frozen BK157.out 4
           have hfz96_5 := blk_frozen BK157.out 5
           have hfz96_6 := blk_frozen BK157.out 6
           have hfz96_7 := blk_frozen BK157.out 7
           have hfz96_8 := blk_frozen BK157.out 8
           have hfz96_9 := blk_frozen BK157.out 9
           have hfz96_10 := blk_frozen BK157.out 10
           have hfz96_11 := blk_frozen BK157.out 11
           go_wp2
           refine bodyPost_ret (results_cell_row rfl _ _ gb157 39 #[.int .i64 a0_0, .int .i64 0, .int .i64 0, .int .i64 0, .int .i64 0, .int .i64 0, .int .i64 0, .int .i64 0, .int .i64 0, .int .i64 a0_9, .int .i64 0, .bool false] (0, 0) _ rfl (by (with_reducible repeat (first | apply kN | apply kD | apply kA)); refine blk_put (cs := #[.int .i64 a0_0, .int .i64 0, .int .i64 0, .int .i64 0, .int .i64 0, .int .i64 0, .int .i64 0, .int .i64 0, .int .i64 0, .int .i64 a0_9, .int .i64 0, .bool false]) ?_ 11 _ rfl; (with_reducible repeat (first | apply kN | apply kD | apply kA)); refine blk_put (cs := #[.int .i64 a0_0, .int .i64 0, .int .i64 0, .int .i64 0, .int .i64 0, .int .i64 0, .int .i64 0, .int .i64 0, .int .i64 0, .int .i64 a0_9, .int .i64 0, .bool false]) ?_ 10 _ rfl; (with_reducible repeat (first | apply kN | apply kD | apply kA)); refine blk_put (cs := #[.int .i64 a0_0, .int .i64 0, .int .i64 0, .int .i64 0, .int .i64 0, .int .i64 0, .int .i64 0, .int .i64 0, .int .i64 0, .int .i64 0, .int .i64 0, .bool false]) ?_ 9 _ rfl; (with_reducible repeat (first | apply kN | apply kD | apply kA)); refine blk_put (cs := #[.int .i64 a0_0, .int .i64 0, .int .i64 0, .int .i64 0, .int .i64 0, .int .i64 0, .int .i64 0, .int .i64 0, .int .i64 0, .int .i64 0, .int .i64 0, .bool false]) ?_ 8 _ rfl; (with_reducible repeat (first | apply kN | apply kD | apply kA)); refine blk_put (cs := #[.int .i64 a0_0, .int .i64 0, .int .i64 0, .int .i64 0, .int .i64 0, .int .i64 0, .int .i64 0, .int .i64 0, .int .i64 0, .int .i64 0, .int .i64 0, .bool false]) ?_ 7 _ rfl; (with_reducible repeat (first | apply kN | apply kD | apply kA)); refine blk_put (cs := #[.int .i64 a0_0, .int .i64 0, .int .i64 0, .int .i64 0, .int .i64 0, .int .i64 0, .int .i64 0, .int .i64 0, .int .i64 0, .int .i64 0, .int .i64 0, .bool false]) ?_ 6 _ rfl; (with_reducible repeat (first | apply kN | apply kD | apply kA)); refine blk_put (cs := #[.int .i64 a0_0, .int .i64 0, .int .i64 0, .int .i64 0, .int .i64 0, .int .i64 0, .int .i64 0, .int .i64 0, .int .i64 0, .int .i64 0, .int .i64 0, .bool false]) ?_ 5 _ rfl; (with_reducible repeat (first | apply kN | apply kD | apply kA)); refine blk_put (cs := #[.int .i64 a0_0, .int .i64 0, .int .i64 0, .int .i64 0, .int .i64 0, .int .i64 0, .int .i64 0, .int .i64 0, .int .i64 0, .int .i64 0, .int .i64 0, .bool false]) ?_ 4 _ rfl; (with_reducible repeat (first | apply kN | apply kD | apply kA)); refine blk_put (cs := #[.int .i64 a0_0, .int .i64 0, .int .i64 0, .int .i64 0, .int .i64 0, .int .i64 0, .int .i64 0, .int .i64 0, .int .i64 0, .int .i64 0, .int .i64 0, .bool false]) ?_ 3 _ rfl; (with_reducible repeat (first | apply kN | apply kD | apply kA)); refine blk_put (cs := #[.int .i64 a0_0, .int .i64 0, .int .i64 0, .int .i64 0, .int .i64 0, .int .i64 0, .int .i64 0, .int .i64 0, .int .i64 0, .int .i64 0, .int .i64 0, .bool false]) ?_ 2 _ rfl; (with_reducible repeat (first | apply kN | apply kD | apply kA)); refine blk_put (cs := #[.int .i64 a0_0, .int .i64 0, .int .i64 0, .int .i64 0, .int .i64 0, .int .i64 0, .int .i64 0, .int .i64 0, .int .i64 0, .int .i64 0, .int .i64 0, .bool false]) ?_ 1 _ rfl; (with_reducible repeat (first | apply kN | apply kD | apply kA)); refine blk_put (cs := #[.int .i64 0, .int .i64 0, .int .i64 0, .int .i64 0, .int .i64 0, .int .i64 0, .int .i64 0, .int .i64 0, .int .i64 0, .int .i64 0, .int .i64 0, .bool false]) ?_ 0 _ rfl; (with_reducible repeat (first | apply kN | apply kD | apply kA)); refine blk_far ?_ NB157_158.out _; (with_reducible repeat (first | apply kN | apply kD | apply kA)); exact BK157.out) Tryd.underlying39 rfl (by kernel_rfl)) rfl ?_
           exact ⟨by first | rfl | (simp [errW_none, errW_some] <;> rfl) | (simp [*, errW_none, errW_some] <;> rfl), by repeat (first | (with_reducible first | exact HB.out | apply bA | apply bN | apply bD | refine bS ?_ GE156.out | refine bS ?_ GE157.out | refine bS ?_ GE158.out) | exact HB.out)⟩
          ·rw [if_neg c90] at H
           have c90b0 : (a0_0 == 10) = false := beq_eq_false_iff_ne.mpr c90
           have c90b1 : (a0_0 != 10) = true := bne_iff_ne.mpr c90
           by_cases c97 : a0_0 = 11
           ·rw [if_pos c97] at H
            have c97b0 : (a0_0 == 11) = true := beq_iff_eq.mpr c97
            have c97b1 : (a0_0 != 11) = false := bne_eq_false_iff_eq.mpr c97
            clear c97
            simp only [Option.some.injEq, Prod.mk.injEq] at H
            obtain ⟨rfl, rfl, rfl, rfl, rfl, rfl, rfl, rfl, rfl, rfl, rfl, rfl⟩ := H
            try go_wp2
            have n0_ := Aside0.mk (blk_drew BK156.out)
            have n1_ := Aside0.mk (blk_drew BK157.out)
            have n2_ := Aside0.mk (blk_drew BK158.out)
            have n3_ := Aside0.mk (below_drew1 HB.out)
            clear BK156 BK157 BK158 HB
            have BK156 := n0_; have BK157 := n1_; have BK158 := n2_; have HB := n3_
            clear n0_ n1_ n2_ n3_
            refine start_ (n := 12) (S := fun w' => w'.cell? ⟨gb156, 0, none⟩ = some (.int .i64 a0_0) ∧ w'.cell? ⟨gb156, 1, none⟩ = some (.int .i64 a0_1) ∧ w'.cell? ⟨gb156, 2, none⟩ = some (.int .i64 a0_2) ∧ w'.cell? ⟨gb156, 3, none⟩ = some (.int .i64 a0_3) ∧ w'.cell? ⟨gb156, 4, none⟩ = some (.int .i64 a0_4) ∧ w'.cell? ⟨gb156, 5, none⟩ = some (.int .i64 a0_5) ∧ w'.cell? ⟨gb156, 6, none⟩ = some (.int .i64 a0_6) ∧ w'.cell? ⟨gb156, 7, none⟩ = some (.int .i64 a0_7) ∧ w'.cell? ⟨gb156, 8, none⟩ = some (.int .i64 a0_8) ∧ w'.cell? ⟨gb156, 9, none⟩ = some (.int .i64 a0_9) ∧ w'.cell? ⟨gb156, 10, none⟩ = some (.int .i64 a0_10) ∧ w'.cell? ⟨gb156, 11, none⟩ = some (.bool a0_11)) (ds := []) #[false, false, false, false, false, false, false, false, false, false, false, false] (by kernel_rfl) rfl rfl ⟨(blk_cell BK156.out 0).trans rfl, (blk_cell BK156.out 1).trans rfl, (blk_cell BK156.out 2).trans rfl, (blk_cell BK156.out 3).trans rfl, (blk_cell BK156.out 4).trans rfl, (blk_cell BK156.out 5).trans rfl, (blk_cell BK156.out 6).trans rfl, (blk_cell BK156.out 7).trans rfl, (blk_cell BK156.out 8).trans rfl, (blk_cell BK156.out 9).trans rfl, (blk_cell BK156.out 10).trans rfl, (blk_cell BK156.out 11).trans rfl⟩ (fun hHeld => ?_); refine with_tabW cmd_Command_Clean.tab25 cmd_Command_Clean.bits25 (fun HT_ HW_ => ?_)
            generalize wc.drew = w98 at BK156 BK157 BK158 HB hHeld ⊢
            refine pu 0 (some 91) ?_ HT_ rfl rfl (by kernel_rfl) (fun _ _ _ h => h) (Or.inl ⟨by rfl, ?_⟩) ?_ ?_ ?_
            rotate_left
            ·intro w'; go_simp; with_reducible rfl
            rotate_left
            ·simp only [Act.put, sA, sB, sC, i64_w]; rfl
            refine pu 2 (some 93) ?_ HT_ rfl rfl (by kernel_rfl) (fun _ _ _ h => h) (Or.inl ⟨by rfl, ?_⟩) ?_ ?_ ?_
            rotate_left
            ·intro w'; go_simp; with_reducible rfl
            rotate_left
            ·simp only [Act.put, sA, sB, sC, i64_w]; rfl
            refine pu 4 (some 95) ?_ HT_ rfl rfl (by kernel_rfl) (fun _ _ _ h => h) (Or.inl ⟨by rfl, ?_⟩) ?_ ?_ ?_
            rotate_left
            ·intro w'; go_simp; with_reducible rfl
            rotate_left
            ·simp only [Act.put, sA, sB, sC, i64_w]; rfl
            refine tk 1 (some 92) ?_ HT_ HW_ rfl rfl (by kernel_rfl) (fun _ _ _ h => h) (Or.inl ⟨by rfl, ?_⟩) hHeld ?_ ?_ ?_
            rotate_left
            ·rintro w' ⟨s0, s1, s2, s3, s4, s5, s6, s7, s8, s9, s10, s11⟩; go_simp; with_reducible rfl
            rotate_left
            ·simp only [Act.put, sA, sB, sC, i64_w]; rfl
            refine pu 6 (some 97) ?_ HT_ rfl rfl (by kernel_rfl) (fun _ _ _ h => h) (Or.inl ⟨by rfl, ?_⟩) ?_ ?_ ?_
            rotate_left
            ·intro w'; go_simp; with_reducible rfl
            rotate_left
            ·simp only [Act.put, sA, sB, sC, i64_w]; rfl
            refine tk 3 (some 94) ?_ HT_ HW_ rfl rfl (by kernel_rfl) (fun _ _ _ h => h) (Or.inl ⟨by rfl, ?_⟩) hHeld ?_ ?_ ?_
            rotate_left
            ·rintro w' ⟨s0, s1, s2, s3, s4, s5, s6, s7, s8, s9, s10, s11⟩; go_simp; with_reducible rfl
            rotate_left
            ·simp only [Act.put, sA, sB, sC, i64_w]; rfl
            refine tk 5 (some 96) ?_ HT_ HW_ rfl rfl (by kernel_rfl) (fun _ _ _ h => h) (Or.inl ⟨by rfl, ?_⟩) hHeld ?_ ?_ ?_
            rotate_left
            ·rintro w' ⟨s0, s1, s2, s3, s4, s5, s6, s7, s8, s9, s10, s11⟩; go_simp; with_reducible rfl
            rotate_left
            ·simp only [Act.put, sA, sB, sC, i64_w]; rfl
            refine on 7 none HT_ rfl rfl (by kernel_rfl) (by decide) (fun K hK => ?_)
            have hs99 : w98.cell? ⟨gb158, 3, none⟩ = some (.int .i64 0) := (blk_cell BK158.out 3).trans rfl
            have hfs99 := blk_frozen BK158.out 3
            have hns99_0 := NB156_158.out
            have hns99_1 := NB157_158.out
            have hms99_0 := NB158_156.out
            have hms99_1 := NB158_157.out
            refine skip_ (w1 := ?_) (by rfl) rfl ?_ ?_
            rotate_left
            ·go_simp
             rfl
            refine hK.out _ _ ⟨((cell_far (p := ⟨gb158, _, none⟩) NB156_158.out _).trans (hHeld.1)), ((cell_far (p := ⟨gb158, _, none⟩) NB156_158.out _).trans (hHeld.2.1)), ((cell_far (p := ⟨gb158, _, none⟩) NB156_158.out _).trans (hHeld.2.2.1)), ((cell_far (p := ⟨gb158, _, none⟩) NB156_158.out _).trans (hHeld.2.2.2.1)), ((cell_far (p := ⟨gb158, _, none⟩) NB156_158.out _).trans (hHeld.2.2.2.2.1)), ((cell_far (p := ⟨gb158, _, none⟩) NB156_158.out _).trans (hHeld.2.2.2.2.2.1)), ((cell_far (p := ⟨gb158, _, none⟩) NB156_158.out _).trans (hHeld.2.2.2.2.2.2.1)), ((cell_far (p := ⟨gb158, _, none⟩) NB156_158.out _).trans (hHeld.2.2.2.2.2.2.2.1)), ((cell_far (p := ⟨gb158, _, none⟩) NB156_158.out _).trans (hHeld.2.2.2.2.2.2.2.2.1)), ((cell_far (p := ⟨gb158, _, none⟩) NB156_158.out _).trans (hHeld.2.2.2.2.2.2.2.2.2.1)), ((cell_far (p := ⟨gb158, _, none⟩) NB156_158.out _).trans (hHeld.2.2.2.2.2.2.2.2.2.2.1)), ((cell_far (p := ⟨gb158, _, none⟩) NB156_158.out _).trans (hHeld.2.2.2.2.2.2.2.2.2.2.2))⟩ (fun hHeld => ?_)
            clear hK K
            refine pu 8 (some 98) ?_ HT_ rfl rfl (by kernel_rfl) (fun _ _ _ h => h) (Or.inl ⟨by rfl, ?_⟩) ?_ ?_ ?_
            rotate_left
            ·intro w'; go_simp; with_reducible rfl
            rotate_left
            ·simp only [Act.put, sA, sB, sC, i64_w]; rfl
            refine on 9 none HT_ rfl rfl (by kernel_rfl) (by decide) (fun K hK => ?_)
            have hs100 : w98.cell? ⟨gb158, 7, none⟩ = some (.int .i64 0) := (blk_cell BK158.out 7).trans rfl
            have hfs100 := blk_frozen BK158.out 7
            have hns100_0 := NB156_158.out
            have hns100_1 := NB157_158.out
            have hms100_0 := NB158_156.out
            have hms100_1 := NB158_157.out
            refine skip_ (w1 := ?_) (by rfl) rfl ?_ ?_
            rotate_left
            ·go_simp
             rfl
            refine hK.out _ _ ⟨((cell_far (p := ⟨gb158, _, none⟩) NB156_158.out _).trans (hHeld.1)), ((cell_far (p := ⟨gb158, _, none⟩) NB156_158.out _).trans (hHeld.2.1)), ((cell_far (p := ⟨gb158, _, none⟩) NB156_158.out _).trans (hHeld.2.2.1)), ((cell_far (p := ⟨gb158, _, none⟩) NB156_158.out _).trans (hHeld.2.2.2.1)), ((cell_far (p := ⟨gb158, _, none⟩) NB156_158.out _).trans (hHeld.2.2.2.2.1)), ((cell_far (p := ⟨gb158, _, none⟩) NB156_158.out _).trans (hHeld.2.2.2.2.2.1)), ((cell_far (p := ⟨gb158, _, none⟩) NB156_158.out _).trans (hHeld.2.2.2.2.2.2.1)), ((cell_far (p := ⟨gb158, _, none⟩) NB156_158.out _).trans (hHeld.2.2.2.2.2.2.2.1)), ((cell_far (p := ⟨gb158, _, none⟩) NB156_158.out _).trans (hHeld.2.2.2.2.2.2.2.2.1)), ((cell_far (p := ⟨gb158, _, none⟩) NB156_158.out _).trans (hHeld.2.2.2.2.2.2.2.2.2.1)), ((cell_far (p := ⟨gb158, _, none⟩) NB156_158.out _).trans (hHeld.2.2.2.2.2.2.2.2.2.2.1)), ((cell_far (p := ⟨gb158, _, none⟩) NB156_158.out _).trans (hHeld.2.2.2.2.2.2.2.2.2.2.2))⟩ (fun hHeld => ?_)
            clear hK K
            refine pu 10 (some 99) ?_ HT_ rfl rfl (by kernel_rfl) (fun _ _ _ h => h) (Or.inl ⟨by rfl, ?_⟩) ?_ ?_ ?_
            rotate_left
            ·intro w'; go_simp; with_reducible rfl
            rotate_left
            ·simp only [Act.put, sA, sB, sC, i64_w]; rfl
            refine on 11 none HT_ rfl rfl (by kernel_rfl) (by decide) (fun K hK => ?_)
            have hs101 : w98.cell? ⟨gb158, 8, none⟩ = some (.int .i64 0) := (blk_cell BK158.out 8).trans rfl
            have hfs101 := blk_frozen BK158.out 8
            have hns101_0 := NB156_158.out
            have hns101_1 := NB157_158.out
            have hms101_0 := NB158_156.out
            have hms101_1 := NB158_157.out
            refine skip_ (w1 := ?_) (by rfl) rfl ?_ ?_
            rotate_left
            ·go_simp
             rfl
            refine hK.out _ _ ⟨((cell_far (p := ⟨gb158, _, none⟩) NB156_158.out _).trans (hHeld.1)), ((cell_far (p := ⟨gb158, _, none⟩) NB156_158.out _).trans (hHeld.2.1)), ((cell_far (p := ⟨gb158, _, none⟩) NB156_158.out _).trans (hHeld.2.2.1)), ((cell_far (p := ⟨gb158, _, none⟩) NB156_158.out _).trans (hHeld.2.2.2.1)), ((cell_far (p := ⟨gb158, _, none⟩) NB156_158.out _).trans (hHeld.2.2.2.2.1)), ((cell_far (p := ⟨gb158, _, none⟩) NB156_158.out _).trans (hHeld.2.2.2.2.2.1)), ((cell_far (p := ⟨gb158, _, none⟩) NB156_158.out _).trans (hHeld.2.2.2.2.2.2.1)), ((cell_far (p := ⟨gb158, _, none⟩) NB156_158.out _).trans (hHeld.2.2.2.2.2.2.2.1)), ((cell_far (p := ⟨gb158, _, none⟩) NB156_158.out _).trans (hHeld.2.2.2.2.2.2.2.2.1)), ((cell_far (p := ⟨gb158, _, none⟩) NB156_158.out _).trans (hHeld.2.2.2.2.2.2.2.2.2.1)), ((cell_far (p := ⟨gb158, _, none⟩) NB156_158.out _).trans (hHeld.2.2.2.2.2.2.2.2.2.2.1)), ((cell_far (p := ⟨gb158, _, none⟩) NB156_158.out _).trans (hHeld.2.2.2.2.2.2.2.2.2.2.2))⟩ (fun hHeld => ?_)
            clear hK K
            refine done_ (done_of HT_.out (by kernel_rfl)) ?_
            have hnb102 := NB158_156.out
            have hnc102 := NB156_158.out
            have hnb103 := NB158_157.out
            have hnc103 := NB157_158.out
            have hcz104_0 : w98.cell? ⟨gb158, 0, none⟩ = some (.int .i64 a0_0) := (blk_cell BK158.out 0).trans rfl
            have hcz104_1 : w98.cell? ⟨gb158, 1, none⟩ = some (.int .i64 0) := (blk_cell BK158.out 1).trans rfl
            have hcz104_2 : w98.cell? ⟨gb158, 2, none⟩ = some (.int .i64 0) := (blk_cell BK158.out 2).trans rfl
            have hcz104_3 : w98.cell? ⟨gb158, 3, none⟩ = some (.int .i64 0) := (blk_cell BK158.out 3).trans rfl
            have hcz104_4 : w98.cell? ⟨gb158, 4, none⟩ = some (.int .i64 0) := (blk_cell BK158.out 4).trans rfl
            have hcz104_5 : w98.cell? ⟨gb158, 5, none⟩ = some (.int .i64 0) := (blk_cell BK158.out 5).trans rfl
            have hcz104_6 : w98.cell? ⟨gb158, 6, none⟩ = some (.int .i64 0) := (blk_cell BK158.out 6).trans rfl
            have hcz104_7 : w98.cell? ⟨gb158, 7, none⟩ = some (.int .i64 0) := (blk_cell BK158.out 7).trans rfl
            have hcz104_8 : w98.cell? ⟨gb158, 8, none⟩ = some (.int .i64 0) := (blk_cell BK158.out 8).trans rfl
            have hcz104_9 : w98.cell? ⟨gb158, 9, none⟩ = some (.int .i64 0) := (blk_cell BK158.out 9).trans rfl
            have hcz104_10 : w98.cell? ⟨gb158, 10, none⟩ = some (.int .i64 0) := (blk_cell BK158.out 10).trans rfl
            have hcz104_11 : w98.cell? ⟨gb158, 11, none⟩ = some (.bool false) := (blk_cell BK158.out 11).trans rfl
            have hfz104_0 := blk_frozen BK158.out 0
            have hfz104_1 := blk_frozen BK158.out 1
            have hfz104_2 := blk_frozen BK158.out 2
            have hfz104_3 := blk_frozen BK158.out 3
            have hfz104_4 := blk_frozen BK158.out 4
            have hfz104_5 := blk_frozen BK158.out 5
            have hfz104_6 := blk_frozen BK158.out 6
            have hfz104_7 := blk_frozen BK158.out 7
            have hfz104_8 := blk_frozen BK158.out 8
            have hfz104_9 := blk_frozen BK158.out 9
            have hfz104_10 := blk_frozen BK158.out 10
            have hfz104_11 := blk_frozen BK158.out 11
            have hnb105 := NB157_156.out
            have hnc105 := NB156_157.out
            have hcz106_0 : w98.cell? ⟨gb157, 0, none⟩ = some (.int .i64 0) := (blk_cell BK157.out 0).trans rfl
            have hcz106_1 : w98.cell? ⟨gb157, 1, none⟩ = some (.int .i64 0) := (blk_cell BK157.out 1).trans rfl
            have hcz106_2 : w98.cell? ⟨gb157, 2, none⟩ = some (.int .i64 0) := (blk_cell BK157.out 2).trans rfl
            have hcz106_3 : w98.cell? ⟨gb157, 3, none⟩ = some (.int .i64 0) := (blk_cell BK157.out 3).trans rfl
            have hcz106_4 : w98.cell? ⟨gb157, 4, none⟩ = some (.int .i64 0) := (blk_cell BK157.out 4).trans rfl
            have hcz106_5 : w98.cell? ⟨gb157, 5, none⟩ = some (.int .i64 0) := (blk_cell BK157.out 5).trans rfl
            have hcz106_6 : w98.cell? ⟨gb157, 6, none⟩ = some (.int .i64 0) := (blk_cell BK157.out 6).trans rfl
            have hcz106_7 : w98.cell? ⟨gb157, 7, none⟩ = some (.int .i64 0) := (blk_cell BK157.out 7).trans rfl
            have hcz106_8 : w98.cell? ⟨gb157, 8, none⟩ = some (.int .i64 0) := (blk_cell BK157.out 8).trans rfl
            have hcz106_9 : w98.cell? ⟨gb157, 9, none⟩ = some (.int .i64 0) := (blk_cell BK157.out 9).trans rfl
            have hcz106_10 : w98.cell? ⟨gb157, 10, none⟩ = some (.int .i64 0) := (blk_cell BK157.out 10).trans rfl
            have hcz106_11 : w98.cell? ⟨gb157, 11, none⟩ = some (.bool false) := (blk_cell BK157.out 11).trans rfl
            have hfz106_0 := blk_frozen BK157.out 0
            have hfz106_1 := blk_frozen BK157.out 1
            have hfz106_2 := blk_frozen BK157.out 2
            have hfz106_3 := blk_frozen BK157.out 3
            have hfz106_4 := blk_frozen BK157.out 4
            have hfz106_5 := blk_frozen BK157.out 5
            have hfz106_6 := blk_frozen BK157.out 6
            have hfz106_7 := blk_frozen BK157.out 7
            have hfz106_8 := blk_frozen BK157.out 8
            have hfz106_9 := blk_frozen BK157.out 9
            have hfz106_10 := blk_frozen BK157.out 10
            have hfz106_11 := blk_frozen BK157.out 11
            try go_wp2
            refine bodyPost_ret (results_cell_row rfl _ _ gb157 39 #[.int .i64 a0_0, .int .i64 0, .int .i64 0, .int .i64 a0_3, .int .i64 0, .int .i64 0, .int .i64 0, .int .i64 a0_7, .int .i64 a0_8, .int .i64 0, .int .i64 0, .bool false] (0, 0) _ rfl (by (with_reducible repeat (first | apply kN | apply kD | apply kA)); refine blk_put (cs := #[.int .i64 a0_0, .int .i64 0, .int .i64 0, .int .i64 a0_3, .int .i64 0, .int .i64 0, .int .i64 0, .int .i64 a0_7, .int .i64 a0_8, .int .i64 0, .int .i64 0, .bool false]) ?_ 11 _ rfl; (with_reducible repeat (first | apply kN | apply kD | apply kA)); refine blk_put (cs := #[.int .i64 a0_0, .int .i64 0, .int .i64 0, .int .i64 a0_3, .int .i64 0, .int .i64 0, .int .i64 0, .int .i64 a0_7, .int .i64 a0_8, .int .i64 0, .int .i64 0, .bool false]) ?_ 10 _ rfl; (with_reducible repeat (first | apply kN | apply kD | apply kA)); refine blk_put (cs := #[.int .i64 a0_0, .int .i64 0, .int .i64 0, .int .i64 a0_3, .int .i64 0, .int .i64 0, .int .i64 0, .int .i64 a0_7, .int .i64 a0_8, .int .i64 0, .int .i64 0, .bool false]) ?_ 9 _ rfl; (with_reducible repeat (first | apply kN | apply kD | apply kA)); refine blk_put (cs := #[.int .i64 a0_0, .int .i64 0, .int .i64 0, .int .i64 a0_3, .int .i64 0, .int .i64 0, .int .i64 0, .int .i64 a0_7, .int .i64 0, .int .i64 0, .int .i64 0, .bool false]) ?_ 8 _ rfl; (with_reducible repeat (first | apply kN | apply kD | apply kA)); refine blk_put (cs := #[.int .i64 a0_0, .int .i64 0, .int .i64 0, .int .i64 a0_3, .int .i64 0, .int .i64 0, .int .i64 0, .int .i64 0, .int .i64 0, .int .i64 0, .int .i64 0, .bool false]) ?_ 7 _ rfl; (with_reducible repeat (first | apply kN | apply kD | apply kA)); refine blk_put (cs := #[.int .i64 a0_0, .int .i64 0, .int .i64 0, .int .i64 a0_3, .int .i64 0, .int .i64 0, .int .i64 0, .int .i64 0, .int .i64 0, .int .i64 0, .int .i64 0, .bool false]) ?_ 6 _ rfl; (with_reducible repeat (first | apply kN | apply kD | apply kA)); refine blk_put (cs := #[.int .i64 a0_0, .int .i64 0, .int .i64 0, .int .i64 a0_3, .int .i64 0, .int .i64 0, .int .i64 0, .int .i64 0, .int .i64 0, .int .i64 0, .int .i64 0, .bool false]) ?_ 5 _ rfl; (with_reducible repeat (first | apply kN | apply kD | apply kA)); refine blk_put (cs := #[.int .i64 a0_0, .int .i64 0, .int .i64 0, .int .i64 a0_3, .int .i64 0, .int .i64 0, .int .i64 0, .int .i64 0, .int .i64 0, .int .i64 0, .int .i64 0, .bool false]) ?_ 4 _ rfl; (with_reducible repeat (first | apply kN | apply kD | apply kA)); refine blk_put (cs := #[.int .i64 a0_0, .int .i64 0, .int .i64 0, .int .i64 0, .int .i64 0, .int .i64 0, .int .i64 0, .int .i64 0, .int .i64 0, .int .i64 0, .int .i64 0, .bool false]) ?_ 3 _ rfl; (with_reducible repeat (first | apply kN | apply kD | apply kA)); refine blk_put (cs := #[.int .i64 a0_0, .int .i64 0, .int .i64 0, .int .i64 0, .int .i64 0, .int .i64 0, .int .i64 0, .int .i64 0, .int .i64 0, .int .i64 0, .int .i64 0, .bool false]) ?_ 2 _ rfl; (with_reducible repeat (first | apply kN | apply kD | apply kA)); refine blk_put (cs := #[.int .i64 a0_0, .int .i64 0, .int .i64 0, .int .i64 0, .int .i64 0, .int .i64 0, .int .i64 0, .int .i64 0, .int .i64 0, .int .i64 0, .int .i64 0, .bool false]) ?_ 1 _ rfl; (with_reducible repeat (first | apply kN | apply kD | apply kA)); refine blk_put (cs := #[.int .i64 0, .int .i64 0, .int .i64 0, .int .i64 0, .int .i64 0, .int .i64 0, .int .i64 0, .int .i64 0, .int .i64 0, .int .i64 0, .int .i64 0, .bool false]) ?_ 0 _ rfl; (with_reducible repeat (first | apply kN | apply kD | apply kA)); refine blk_far ?_ NB157_158.out _; (with_reducible repeat (first | apply kN | apply kD | apply kA)); refine blk_far ?_ NB157_158.out _; (with_reducible repeat (first | apply kN | apply kD | apply kA)); refine blk_far ?_ NB157_158.out _; (with_reducible repeat (first | apply kN | apply kD | apply kA)); exact BK157.out) Tryd.underlying39 rfl (by kernel_rfl)) rfl ?_
            exact ⟨by first | rfl | (simp [errW_none, errW_some] <;> rfl) | (simp [*, errW_none, errW_some] <;> rfl), by repeat (first | (with_reducible first | exact HB.out | apply bA | apply bN | apply bD | refine bS ?_ GE156.out | refine bS ?_ GE157.out | refine bS ?_ GE158.out) | exact HB.out)⟩
           ·rw [if_neg c97] at H
            have c97b0 : (a0_0 == 11) = false := beq_eq_false_iff_ne.mpr c97
            have c97b1 : (a0_0 != 11) = true := bne_iff_ne.mpr c97
            simp only [Option.some.injEq, Prod.mk.injEq] at H
            obtain ⟨rfl, rfl, rfl, rfl, rfl, rfl, rfl, rfl, rfl, rfl, rfl, rfl⟩ := H
            have hnb107 := NB157_156.out
            have hnc107 := NB156_157.out
            have hnb108 := NB157_158.out
            have hnc108 := NB158_157.out
            have hcz109_0 : wc.cell? ⟨gb157, 0, none⟩ = some (.int .i64 0) := (blk_cell BK157.out 0).trans rfl
            have hcz109_1 : wc.cell? ⟨gb157, 1, none⟩ = some (.int .i64 0) := (blk_cell BK157.out 1).trans rfl
            have hcz109_2 : wc.cell? ⟨gb157, 2, none⟩ = some (.int .i64 0) := (blk_cell BK157.out 2).trans rfl
            have hcz109_3 : wc.cell? ⟨gb157, 3, none⟩ = some (.int .i64 0) := (blk_cell BK157.out 3).trans rfl
            have hcz109_4 : wc.cell? ⟨gb157, 4, none⟩ = some (.int .i64 0) := (blk_cell BK157.out 4).trans rfl
            have hcz109_5 : wc.cell? ⟨gb157, 5, none⟩ = some (.int .i64 0) := (blk_cell BK157.out 5).trans rfl
            have hcz109_6 : wc.cell? ⟨gb157, 6, none⟩ = some (.int .i64 0) := (blk_cell BK157.out 6).trans rfl
            have hcz109_7 : wc.cell? ⟨gb157, 7, none⟩ = some (.int .i64 0) := (blk_cell BK157.out 7).trans rfl
            have hcz109_8 : wc.cell? ⟨gb157, 8, none⟩ = some (.int .i64 0) := (blk_cell BK157.out 8).trans rfl
            have hcz109_9 : wc.cell? ⟨gb157, 9, none⟩ = some (.int .i64 0) := (blk_cell BK157.out 9).trans rfl
            have hcz109_10 : wc.cell? ⟨gb157, 10, none⟩ = some (.int .i64 0) := (blk_cell BK157.out 10).trans rfl
            have hcz109_11 : wc.cell? ⟨gb157, 11, none⟩ = some (.bool false) := (blk_cell BK157.out 11).trans rfl
            have hfz109_0 := blk_frozen BK157.out 0
            have hfz109_1 := blk_frozen BK157.out 1
            have hfz109_2 := blk_frozen BK157.out 2
            have hfz109_3 := blk_frozen BK157.out 3
            have hfz109_4 := blk_frozen BK157.out 4
            have hfz109_5 := blk_frozen BK157.out 5
            have hfz109_6 := blk_frozen BK157.out 6
            have hfz109_7 := blk_frozen BK157.out 7
            have hfz109_8 := blk_frozen BK157.out 8
            have hfz109_9 := blk_frozen BK157.out 9
            have hfz109_10 := blk_frozen BK157.out 10
            have hfz109_11 := blk_frozen BK157.out 11
            go_wp2
            refine bodyPost_ret (results_cell_row rfl _ _ gb157 39 #[.int .i64 0, .int .i64 0, .int .i64 0, .int .i64 0, .int .i64 0, .int .i64 0, .int .i64 0, .int .i64 0, .int .i64 0, .int .i64 0, .int .i64 0, .bool false] (0, 0) _ rfl (by (with_reducible repeat (first | apply kN | apply kD | apply kA)); refine blk_put (cs := #[.int .i64 0, .int .i64 0, .int .i64 0, .int .i64 0, .int .i64 0, .int .i64 0, .int .i64 0, .int .i64 0, .int .i64 0, .int .i64 0, .int .i64 0, .bool false]) ?_ 11 _ rfl; (with_reducible repeat (first | apply kN | apply kD | apply kA)); refine blk_put (cs := #[.int .i64 0, .int .i64 0, .int .i64 0, .int .i64 0, .int .i64 0, .int .i64 0, .int .i64 0, .int .i64 0, .int .i64 0, .int .i64 0, .int .i64 0, .bool false]) ?_ 10 _ rfl; (with_reducible repeat (first | apply kN | apply kD | apply kA)); refine blk_put (cs := #[.int .i64 0, .int .i64 0, .int .i64 0, .int .i64 0, .int .i64 0, .int .i64 0, .int .i64 0, .int .i64 0, .int .i64 0, .int .i64 0, .int .i64 0, .bool false]) ?_ 9 _ rfl; (with_reducible repeat (first | apply kN | apply kD | apply kA)); refine blk_put (cs := #[.int .i64 0, .int .i64 0, .int .i64 0, .int .i64 0, .int .i64 0, .int .i64 0, .int .i64 0, .int .i64 0, .int .i64 0, .int .i64 0, .int .i64 0, .bool false]) ?_ 8 _ rfl; (with_reducible repeat (first | apply kN | apply kD | apply kA)); refine blk_put (cs := #[.int .i64 0, .int .i64 0, .int .i64 0, .int .i64 0, .int .i64 0, .int .i64 0, .int .i64 0, .int .i64 0, .int .i64 0, .int .i64 0, .int .i64 0, .bool false]) ?_ 7 _ rfl; (with_reducible repeat (first | apply kN | apply kD | apply kA)); refine blk_put (cs := #[.int .i64 0, .int .i64 0, .int .i64 0, .int .i64 0, .int .i64 0, .int .i64 0, .int .i64 0, .int .i64 0, .int .i64 0, .int .i64 0, .int .i64 0, .bool false]) ?_ 6 _ rfl; (with_reducible repeat (first | apply kN | apply kD | apply kA)); refine blk_put (cs := #[.int .i64 0, .int .i64 0, .int .i64 0, .int .i64 0, .int .i64 0, .int .i64 0, .int .i64 0, .int .i64 0, .int .i64 0, .int .i64 0, .int .i64 0, .bool false]) ?_ 5 _ rfl; (with_reducible repeat (first | apply kN | apply kD | apply kA)); refine blk_put (cs := #[.int .i64 0, .int .i64 0, .int .i64 0, .int .i64 0, .int .i64 0, .int .i64 0, .int .i64 0, .int .i64 0, .int .i64 0, .int .i64 0, .int .i64 0, .bool false]) ?_ 4 _ rfl; (with_reducible repeat (first | apply kN | apply kD | apply kA)); refine blk_put (cs := #[.int .i64 0, .int .i64 0, .int .i64 0, .int .i64 0, .int .i64 0, .int .i64 0, .int .i64 0, .int .i64 0, .int .i64 0, .int .i64 0, .int .i64 0, .bool false]) ?_ 3 _ rfl; (with_reducible repeat (first | apply kN | apply kD | apply kA)); refine blk_put (cs := #[.int .i64 0, .int .i64 0, .int .i64 0, .int .i64 0, .int .i64 0, .int .i64 0, .int .i64 0, .int .i64 0, .int .i64 0, .int .i64 0, .int .i64 0, .bool false]) ?_ 2 _ rfl; (with_reducible repeat (first | apply kN | apply kD | apply kA)); refine blk_put (cs := #[.int .i64 0, .int .i64 0, .int .i64 0, .int .i64 0, .int .i64 0, .int .i64 0, .int .i64 0, .int .i64 0, .int .i64 0, .int .i64 0, .int .i64 0, .bool false]) ?_ 1 _ rfl; (with_reducible repeat (first | apply kN | apply kD | apply kA)); refine blk_put (cs := #[.int .i64 0, .int .i64 0, .int .i64 0, .int .i64 0, .int .i64 0, .int .i64 0, .int .i64 0, .int .i64 0, .int .i64 0, .int .i64 0, .int .i64 0, .bool false]) ?_ 0 _ rfl; (with_reducible repeat (first | apply kN | apply kD | apply kA)); exact BK157.out) Tryd.underlying39 rfl (by kernel_rfl)) rfl ?_
            exact ⟨by first | rfl | (simp [errW_none, errW_some] <;> rfl) | (simp [*, errW_none, errW_some] <;> rfl), by repeat (first | (with_reducible first | exact HB.out | apply bA | apply bN | apply bD | refine bS ?_ GE156.out | refine bS ?_ GE157.out | refine bS ?_ GE158.out) | exact HB.out)⟩

end Go.Proofs.YtkkjjogbfjahgaaDoor.PSc
