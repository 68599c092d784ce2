/- By a program of this session (the print, with contracts written by hand let in), key Tr: what the functions come to as Lean functions, and the contracts that lead from the Go code to them. Conditions: those of the statements. -/
import Derived.Test.YtdpomgfibjlehaaDoorTrTame
import Derived.Test.YtdpomgfibjlehaaDoorTrRead
import Derived.Test.YtdpomgfibjlehaaDoorPTrx0
import Derived.Test.YtdpomgfibjlehaaDoorPTrx2
import Derived.Test.YtdpomgfibjlehaaDoorPTrx9
import Derived.Test.YtdpomgfibjlehaaDoorPTrx14
import Derived.Lib.SliceRun
namespace Go.Proofs.YtdpomgfibjlehaaDoor.PTr
open Go.RowKit Go.Proofs.YtdpomgfibjlehaaDoorW.PrintWords Go.Proofs.YtdpomgfibjlehaaDoorW.PrintLast Go.Proofs.YtdpomgfibjlehaaDoorW.PrintMore
attribute [local go_sem] max2_int min2_int max_two min_two max_three min_three max_four min_four   -- for this text's walks alone
set_option linter.unusedVariables false
set_option linter.unusedSimpArgs false

attribute [local go_sem high] eqA46
/-! ### berthinglaw32_TraceBack: function 5 -/
mutual
def berthinglaw32_TraceBack.j0 : Nat → List (S46) → Int → List (S46) → Bool → Option (Bool)
 | 0, _, _, _, _ => none
 | k + 1, x0, x1, x6, x61 => if x61 = true then (none) else (berthinglaw32_TraceBack.l0 k x0 x1 x6 0)
def berthinglaw32_TraceBack.l0 : Nat → List (S46) → Int → List (S46) → Int → Option (Bool)
 | 0, _, _, _, _ => none
 | k + 1, x0, x1, x6, x12 => if x12 < (x0.length : Int) then (if 0 ≤ x12 then (if x12 < (x6.length : Int) then (if (!(((rd_T46 x6 x12).f0) == ((rd_T46 x0 x12).f0)) || (!(((rd_T46 x6 x12).f1) == ((rd_T46 x0 x12).f1)) || (!(((rd_T46 x6 x12).f2) == ((rd_T46 x0 x12).f2)) || (!(((rd_T46 x6 x12).f3) == ((rd_T46 x0 x12).f3)) || (!(((rd_T46 x6 x12).f4) == ((rd_T46 x0 x12).f4)) || (!(((rd_T46 x6 x12).f5) == ((rd_T46 x0 x12).f5)) || (!(((rd_T46 x6 x12).f6) == ((rd_T46 x0 x12).f6))))))))) = true then (none) else (berthinglaw32_TraceBack.l0 k x0 x1 x6 (wrap64 (x12 + 1)))) else (none)) else (none)) else (if (x0.length : Int) < 2 then ((berthinglaw32_one.f k).bind fun t268 => (some t268)) else (if (wrap64 ((x0.length : Int) - 1)) = 0 then (none) else ((some (([] : List (S46)) : List (S46))).bind fun y269 => (if y269.length + x0.length < 2513169434916 then ((some (y269 ++ x0 : List (S46))).bind fun y272 => (if 0 ≤ (wrap64 ((Int.tmod (wrap64 ((wrap64 ((Int.tmod x1 (wrap64 ((x0.length : Int) - 1))) + (x0.length : Int))) - 1)) (wrap64 ((x0.length : Int) - 1))) + 1)) then (if (wrap64 ((Int.tmod (wrap64 ((wrap64 ((Int.tmod x1 (wrap64 ((x0.length : Int) - 1))) + (x0.length : Int))) - 1)) (wrap64 ((x0.length : Int) - 1))) + 1)) < (x0.length : Int) then (if 0 ≤ (Int.tmod (wrap64 ((wrap64 ((Int.tmod x1 (wrap64 ((x0.length : Int) - 1))) + (x0.length : Int))) - 1)) (wrap64 ((x0.length : Int) - 1))) then (if (Int.tmod (wrap64 ((wrap64 ((Int.tmod x1 (wrap64 ((x0.length : Int) - 1))) + (x0.length : Int))) - 1)) (wrap64 ((x0.length : Int) - 1))) < (x0.length : Int) then (if (Int.tmod (wrap64 ((wrap64 ((Int.tmod x1 (wrap64 ((x0.length : Int) - 1))) + (x0.length : Int))) - 1)) (wrap64 ((x0.length : Int) - 1))) < (y272.length : Int) then (if (wrap64 ((Int.tmod (wrap64 ((wrap64 ((Int.tmod x1 (wrap64 ((x0.length : Int) - 1))) + (x0.length : Int))) - 1)) (wrap64 ((x0.length : Int) - 1))) + 1)) < (y272.length : Int) then ((trace_Put.f k ((y272.set ((Int.tmod (wrap64 ((wrap64 ((Int.tmod x1 (wrap64 ((x0.length : Int) - 1))) + (x0.length : Int))) - 1)) (wrap64 ((x0.length : Int) - 1))) : Int).toNat (⟨(rd_T46 x0 (wrap64 ((Int.tmod (wrap64 ((wrap64 ((Int.tmod x1 (wrap64 ((x0.length : Int) - 1))) + (x0.length : Int))) - 1)) (wrap64 ((x0.length : Int) - 1))) + 1))).f0, (rd_T46 x0 (wrap64 ((Int.tmod (wrap64 ((wrap64 ((Int.tmod x1 (wrap64 ((x0.length : Int) - 1))) + (x0.length : Int))) - 1)) (wrap64 ((x0.length : Int) - 1))) + 1))).f1, (rd_T46 x0 (wrap64 ((Int.tmod (wrap64 ((wrap64 ((Int.tmod x1 (wrap64 ((x0.length : Int) - 1))) + (x0.length : Int))) - 1)) (wrap64 ((x0.length : Int) - 1))) + 1))).f2, (rd_T46 x0 (wrap64 ((Int.tmod (wrap64 ((wrap64 ((Int.tmod x1 (wrap64 ((x0.length : Int) - 1))) + (x0.length : Int))) - 1)) (wrap64 ((x0.length : Int) - 1))) + 1))).f3, (rd_T46 x0 (wrap64 ((Int.tmod (wrap64 ((wrap64 ((Int.tmod x1 (wrap64 ((x0.length : Int) - 1))) + (x0.length : Int))) - 1)) (wrap64 ((x0.length : Int) - 1))) + 1))).f4, (rd_T46 x0 (wrap64 ((Int.tmod (wrap64 ((wrap64 ((Int.tmod x1 (wrap64 ((x0.length : Int) - 1))) + (x0.length : Int))) - 1)) (wrap64 ((x0.length : Int) - 1))) + 1))).f5, (rd_T46 x0 (wrap64 ((Int.tmod (wrap64 ((wrap64 ((Int.tmod x1 (wrap64 ((x0.length : Int) - 1))) + (x0.length : Int))) - 1)) (wrap64 ((x0.length : Int) - 1))) + 1))).f6⟩ : S46)).set ((wrap64 ((Int.tmod (wrap64 ((wrap64 ((Int.tmod x1 (wrap64 ((x0.length : Int) - 1))) + (x0.length : Int))) - 1)) (wrap64 ((x0.length : Int) - 1))) + 1)) : Int).toNat (⟨(rd_T46 x0 (Int.tmod (wrap64 ((wrap64 ((Int.tmod x1 (wrap64 ((x0.length : Int) - 1))) + (x0.length : Int))) - 1)) (wrap64 ((x0.length : Int) - 1)))).f0, (rd_T46 x0 (Int.tmod (wrap64 ((wrap64 ((Int.tmod x1 (wrap64 ((x0.length : Int) - 1))) + (x0.length : Int))) - 1)) (wrap64 ((x0.length : Int) - 1)))).f1, (rd_T46 x0 (Int.tmod (wrap64 ((wrap64 ((Int.tmod x1 (wrap64 ((x0.length : Int) - 1))) + (x0.length : Int))) - 1)) (wrap64 ((x0.length : Int) - 1)))).f2, (rd_T46 x0 (Int.tmod (wrap64 ((wrap64 ((Int.tmod x1 (wrap64 ((x0.length : Int) - 1))) + (x0.length : Int))) - 1)) (wrap64 ((x0.length : Int) - 1)))).f3, (rd_T46 x0 (Int.tmod (wrap64 ((wrap64 ((Int.tmod x1 (wrap64 ((x0.length : Int) - 1))) + (x0.length : Int))) - 1)) (wrap64 ((x0.length : Int) - 1)))).f4, (rd_T46 x0 (Int.tmod (wrap64 ((wrap64 ((Int.tmod x1 (wrap64 ((x0.length : Int) - 1))) + (x0.length : Int))) - 1)) (wrap64 ((x0.length : Int) - 1)))).f5, (rd_T46 x0 (Int.tmod (wrap64 ((wrap64 ((Int.tmod x1 (wrap64 ((x0.length : Int) - 1))) + (x0.length : Int))) - 1)) (wrap64 ((x0.length : Int) - 1)))).f6⟩ : S46))).bind fun t279 => (if ((decide ((t279.length : Int) > 0)) == (((rd_T46 x0 (Int.tmod (wrap64 ((wrap64 ((Int.tmod x1 (wrap64 ((x0.length : Int) - 1))) + (x0.length : Int))) - 1)) (wrap64 ((x0.length : Int) - 1)))).f4) == ((rd_T46 x0 (wrap64 ((Int.tmod (wrap64 ((wrap64 ((Int.tmod x1 (wrap64 ((x0.length : Int) - 1))) + (x0.length : Int))) - 1)) (wrap64 ((x0.length : Int) - 1))) + 1))).f4))) = true then ((berthinglaw32_one.f k).bind fun t284 => (some t284)) else (none))) else (none)) else (none)) else (none)) else (none)) else (none)) else (none))) else (none)))))
end
def berthinglaw32_TraceBack.f (k : Nat) (l0 : List (S46)) (a1 : Int) : Option (Bool) := (berthinglaw32_Tame.f l0 40).bind fun t234 => ((trace_Put.f k t234).bind fun t237 => (if (t237.length : Int) = 0 then (none) else ((trace_Read.f t237).bind fun bt240 => (if 0 ≤ (wrap64 ((t237.length : Int) - 1)) then (if (wrap64 ((t237.length : Int) - 1)) ≤ (t237.length : Int) then ((trace_Read.f (t237.take ((wrap64 ((t237.length : Int) - 1)) : Int).toNat)).bind fun bt249 => ((some (([] : List Int) : List Int)).bind fun y253 => (if y253.length + t237.length < 140737488355328 then ((some (y253 ++ t237 : List Int)).bind fun y256 => (if y256.length < 140737488355328 then ((trace_Read.f (y256 ++ [0])).bind fun bt262 => (if bt240.2 = 0 then (if bt249.2 = 11 then (if bt262.2 = 11 then (berthinglaw32_TraceBack.j0 k t234 a1 bt240.1 ((bt240.1.length : Int) != (t234.length : Int))) else (berthinglaw32_TraceBack.j0 k t234 a1 bt240.1 true)) else (berthinglaw32_TraceBack.j0 k t234 a1 bt240.1 true)) else (berthinglaw32_TraceBack.j0 k t234 a1 bt240.1 true))) else (none))) else (none)))) else (none)) else (none)))))
theorem berthinglaw32_TraceBack.mono_l : ∀ k, (∀ y0 y1 y2 y3, LeO (berthinglaw32_TraceBack.j0 k y0 y1 y2 y3) (berthinglaw32_TraceBack.j0 (k + 1) y0 y1 y2 y3)) ∧ (∀ y0 y1 y2 y3, LeO (berthinglaw32_TraceBack.l0 k y0 y1 y2 y3) (berthinglaw32_TraceBack.l0 (k + 1) y0 y1 y2 y3))
 | 0 => ⟨fun _ _ _ _ r h => by simp [berthinglaw32_TraceBack.j0] at h, fun _ _ _ _ r h => by simp [berthinglaw32_TraceBack.l0] at h⟩
 | k + 1 => by
  obtain ⟨ih0, ih1⟩ := berthinglaw32_TraceBack.mono_l k
  refine ⟨?_, ?_⟩
  ·intro y0 y1 y2 y3
   unfold berthinglaw32_TraceBack.j0
   repeat' first
   | (with_reducible exact ih0 _ _ _ _)
   | (with_reducible exact ih1 _ _ _ _)
   | (with_reducible exact berthinglaw32_one.mono _)
   | (with_reducible exact trace_Put.mono _ _)
   | (with_reducible exact LeO.refl _)
   | (with_reducible exact LeO.none _)
   | (with_reducible refine LeO.ite ?_ ?_)
   | (with_reducible refine LeO.bind ?_ (fun _ => ?_))
   | exact ih0 _ _ _ _
   | exact ih1 _ _ _ _
   | exact berthinglaw32_one.mono _
   | exact trace_Put.mono _ _
   | exact LeO.none _
   | refine LeO.ite ?_ ?_
   | refine LeO.bind ?_ (fun _ => ?_)
  ·intro y0 y1 y2 y3
   unfold berthinglaw32_TraceBack.l0
   repeat' first
   | (with_reducible exact ih0 _ _ _ _)
   | (with_reducible exact ih1 _ _ _ _)
   | (with_reducible exact berthinglaw32_one.mono _)
   | (with_reducible exact trace_Put.mono _ _)
   | (with_reducible exact LeO.refl _)
   | (with_reducible exact LeO.none _)
   | (with_reducible refine LeO.ite ?_ ?_)
   | (with_reducible refine LeO.bind ?_ (fun _ => ?_))
   | exact ih0 _ _ _ _
   | exact ih1 _ _ _ _
   | exact berthinglaw32_one.mono _
   | exact trace_Put.mono _ _
   | exact LeO.none _
   | refine LeO.ite ?_ ?_
   | refine LeO.bind ?_ (fun _ => ?_)
theorem berthinglaw32_TraceBack.mono : ∀ a0 a1 k, LeO (berthinglaw32_TraceBack.f k a0 a1) (berthinglaw32_TraceBack.f (k + 1) a0 a1) := by
 intro a0 a1 k
 obtain ⟨ih0, ih1⟩ := berthinglaw32_TraceBack.mono_l k
 unfold berthinglaw32_TraceBack.f
 repeat' first
   | (with_reducible exact ih0 _ _ _ _)
   | (with_reducible exact ih1 _ _ _ _)
   | (with_reducible exact berthinglaw32_one.mono _)
   | (with_reducible exact trace_Put.mono _ _)
   | (with_reducible exact LeO.refl _)
   | (with_reducible exact LeO.none _)
   | (with_reducible refine LeO.ite ?_ ?_)
   | (with_reducible refine LeO.bind ?_ (fun _ => ?_))
   | exact ih0 _ _ _ _
   | exact ih1 _ _ _ _
   | exact berthinglaw32_one.mono _
   | exact trace_Put.mono _ _
   | exact LeO.none _
   | refine LeO.ite ?_ ?_
   | refine LeO.bind ?_ (fun _ => ?_)
def berthinglaw32_TraceBack.T13 : Bool × List (List Nat × List Nat) := (true, [([], []), ([], []), ([0, 1], [0, 1]), ([2], [2]), ([], []), ([], []), ([4, 5], [4, 5]), ([6], [6]), ([3, 7], [3, 7])])
def berthinglaw32_TraceBack.B13 : List Nat := [0, 0, 3, 7, 0, 0, 48, 112, 255]
theorem berthinglaw32_TraceBack.tab13 : rtab .any (opsOf Tryd.f5 13) = berthinglaw32_TraceBack.T13 := by kernel_rfl
theorem berthinglaw32_TraceBack.bits13 : waitsOk berthinglaw32_TraceBack.T13.2 berthinglaw32_TraceBack.B13 = true := by kernel_rfl
def berthinglaw32_TraceBack.T19 : Bool × List (List Nat × List Nat) := (true, [([], []), ([], []), ([], []), ([], []), ([3], [3]), ([], []), ([], []), ([6], [6]), ([5, 7], [5, 7]), ([8], [8]), ([], []), ([], []), ([10, 11], [10, 11]), ([12], [12]), ([0, 1, 0, 1, 5, 6, 7, 8, 9, 13], [0, 1]), ([14, 9, 0, 1, 5, 6, 7, 8, 9, 13], [9, 14]), ([2, 4, 0, 1, 2, 3, 4, 5, 6, 7, 8, 9, 10, 11, 12, 13, 14, 15], [2, 4]), ([16, 13, 15, 0, 1, 2, 3, 4, 5, 6, 7, 8, 9, 10, 11, 12, 13, 14, 15], [13, 16])])
def berthinglaw32_TraceBack.B19 : List Nat := [0, 0, 0, 0, 8, 0, 0, 64, 224, 480, 0, 0, 3072, 7168, 16355, 32739, 65535, 131071]
theorem berthinglaw32_TraceBack.tab19 : rtab .any (opsOf Tryd.f5 19) = berthinglaw32_TraceBack.T19 := by kernel_rfl
theorem berthinglaw32_TraceBack.bits19 : waitsOk berthinglaw32_TraceBack.T19.2 berthinglaw32_TraceBack.B19 = true := by kernel_rfl
def berthinglaw32_TraceBack.T20 : Bool × List (List Nat × List Nat) := (true, [([], []), ([0], [0]), ([1], [1]), ([2], [2]), ([], []), ([], []), ([4, 5], [4, 5]), ([6], [6]), ([7], [7]), ([], []), ([], []), ([10], [10]), ([9, 11], [9, 11]), ([12], [12]), ([13], [13]), ([8, 14], [8, 14]), ([3, 15], [3, 15]), ([16, 1], [16]), ([17, 17], [17]), ([17, 18], [17, 18]), ([19, 18, 0, 1, 2, 3, 4, 5, 6, 7, 8, 9, 10, 11, 12, 13, 14, 15, 16, 17, 18, 19], [19])])
def berthinglaw32_TraceBack.B20 : List Nat := [0, 1, 3, 7, 0, 0, 48, 112, 240, 0, 0, 1024, 3584, 7680, 15872, 32752, 65535, 131071, 262143, 524287, 1048575]
theorem berthinglaw32_TraceBack.tab20 : rtab .any (opsOf Tryd.f5 20) = berthinglaw32_TraceBack.T20 := by kernel_rfl
theorem berthinglaw32_TraceBack.bits20 : waitsOk berthinglaw32_TraceBack.T20.2 berthinglaw32_TraceBack.B20 = true := by kernel_rfl
set_option maxHeartbeats 8000000 in
set_option maxRecDepth 100000 in
theorem berthinglaw32_TraceBack.calls (k : Nat) (A0 : Option Addr) (c0 : Nat) (l0 : List (S46)) (a1 : Int) (r : Bool) (w : World) (hT : Cur.ErrT w) (hr0 : Kd.C k46 w A0 l0.length l0) (hc0 : l0.length ≤ c0) (h : berthinglaw32_TraceBack.f k l0 a1 = some r) :
  Calls Tryd.prog 5 #[.slice A0 l0.length c0, .int .i64 a1] w fun e w' => e = .returned (.bool r) ∧ Below w.heap.size w w' := by
 have hu46 := Tryd.underlying46
 have HR0 := Aside0.mk hr0
 have HC0 := Aside0.mk hc0
 clear hr0 hc0
 have HB := Aside0.mk (Below.refl w.heap.size w)
 have H : ((berthinglaw32_Tame.f l0 40).bind fun t234 => ((trace_Put.f k t234).bind fun t237 => (if (t237.length : Int) = 0 then (none) else ((trace_Read.f t237).bind fun bt240 => (if 0 ≤ (wrap64 ((t237.length : Int) - 1)) then (if (wrap64 ((t237.length : Int) - 1)) ≤ (t237.length : Int) then ((trace_Read.f (t237.take ((wrap64 ((t237.length : Int) - 1)) : Int).toNat)).bind fun bt249 => ((some (([] : List Int) : List Int)).bind fun y253 => (if y253.length + t237.length < 140737488355328 then ((some (y253 ++ t237 : List Int)).bind fun y256 => (if y256.length < 140737488355328 then ((trace_Read.f (y256 ++ [0])).bind fun bt262 => (if bt240.2 = 0 then (if bt249.2 = 11 then (if bt262.2 = 11 then (berthinglaw32_TraceBack.j0 k t234 a1 bt240.1 ((bt240.1.length : Int) != (t234.length : Int))) else (berthinglaw32_TraceBack.j0 k t234 a1 bt240.1 true)) else (berthinglaw32_TraceBack.j0 k t234 a1 bt240.1 true)) else (berthinglaw32_TraceBack.j0 k t234 a1 bt240.1 true))) else (none))) else (none)))) else (none)) else (none)))))) = some r := h
 clear h
 replace H := Option.bind_eq_some_iff.mp H
 obtain ⟨t234, A30, H⟩ := H
 replace H : ((trace_Put.f k t234).bind fun t237 => (if (t237.length : Int) = 0 then (none) else ((trace_Read.f t237).bind fun bt240 => (if 0 ≤ (wrap64 ((t237.length : Int) - 1)) then (if (wrap64 ((t237.length : Int) - 1)) ≤ (t237.length : Int) then ((trace_Read.f (t237.take ((wrap64 ((t237.length : Int) - 1)) : Int).toNat)).bind fun bt249 => ((some (([] : List Int) : List Int)).bind fun y253 => (if y253.length + t237.length < 140737488355328 then ((some (y253 ++ t237 : List Int)).bind fun y256 => (if y256.length < 140737488355328 then ((trace_Read.f (y256 ++ [0])).bind fun bt262 => (if bt240.2 = 0 then (if bt249.2 = 11 then (if bt262.2 = 11 then (berthinglaw32_TraceBack.j0 k t234 a1 bt240.1 ((bt240.1.length : Int) != (t234.length : Int))) else (berthinglaw32_TraceBack.j0 k t234 a1 bt240.1 true)) else (berthinglaw32_TraceBack.j0 k t234 a1 bt240.1 true)) else (berthinglaw32_TraceBack.j0 k t234 a1 bt240.1 true))) else (none))) else (none)))) else (none)) else (none))))) = some r := H
 have A3 := Aside0.mk A30
 clear A30
 replace H := Option.bind_eq_some_iff.mp H
 obtain ⟨t237, A40, H⟩ := H
 replace H : (if (t237.length : Int) = 0 then (none) else ((trace_Read.f t237).bind fun bt240 => (if 0 ≤ (wrap64 ((t237.length : Int) - 1)) then (if (wrap64 ((t237.length : Int) - 1)) ≤ (t237.length : Int) then ((trace_Read.f (t237.take ((wrap64 ((t237.length : Int) - 1)) : Int).toNat)).bind fun bt249 => ((some (([] : List Int) : List Int)).bind fun y253 => (if y253.length + t237.length < 140737488355328 then ((some (y253 ++ t237 : List Int)).bind fun y256 => (if y256.length < 140737488355328 then ((trace_Read.f (y256 ++ [0])).bind fun bt262 => (if bt240.2 = 0 then (if bt249.2 = 11 then (if bt262.2 = 11 then (berthinglaw32_TraceBack.j0 k t234 a1 bt240.1 ((bt240.1.length : Int) != (t234.length : Int))) else (berthinglaw32_TraceBack.j0 k t234 a1 bt240.1 true)) else (berthinglaw32_TraceBack.j0 k t234 a1 bt240.1 true)) else (berthinglaw32_TraceBack.j0 k t234 a1 bt240.1 true))) else (none))) else (none)))) else (none)) else (none)))) = some r := H
 have A4 := Aside0.mk A40
 clear A40
 by_cases c5 : (t237.length : Int) = 0
 ·rw [if_pos c5] at H
  exact absurd H (by simp)
 ·rw [if_neg c5] at H
  have c5b0 : ((t237.length : Int) == 0) = false := beq_eq_false_iff_ne.mpr c5
  have c5b1 : ((t237.length : Int) != 0) = true := bne_iff_ne.mpr c5
  have c5b2 : ¬ (t237 = []) := fun h_ => c5 (by rw [h_]; rfl)
  replace H := Option.bind_eq_some_iff.mp H
  obtain ⟨⟨t240, t241⟩, A60, H⟩ := H
  replace H : (if 0 ≤ (wrap64 ((t237.length : Int) - 1)) then (if (wrap64 ((t237.length : Int) - 1)) ≤ (t237.length : Int) then ((trace_Read.f (t237.take ((wrap64 ((t237.length : Int) - 1)) : Int).toNat)).bind fun bt249 => ((some (([] : List Int) : List Int)).bind fun y253 => (if y253.length + t237.length < 140737488355328 then ((some (y253 ++ t237 : List Int)).bind fun y256 => (if y256.length < 140737488355328 then ((trace_Read.f (y256 ++ [0])).bind fun bt262 => (if t241 = 0 then (if bt249.2 = 11 then (if bt262.2 = 11 then (berthinglaw32_TraceBack.j0 k t234 a1 t240 ((t240.length : Int) != (t234.length : Int))) else (berthinglaw32_TraceBack.j0 k t234 a1 t240 true)) else (berthinglaw32_TraceBack.j0 k t234 a1 t240 true)) else (berthinglaw32_TraceBack.j0 k t234 a1 t240 true))) else (none))) else (none)))) else (none)) else (none)) = some r := H
  have A6 := Aside0.mk A60
  clear A60
  obtain ⟨ji7, hji7⟩ : ∃ j_ : Int, (wrap64 ((t237.length : Int) - 1)) = j_ := ⟨_, rfl⟩
  replace H : (if 0 ≤ (ji7) then (if (ji7) ≤ (t237.length : Int) then ((trace_Read.f (t237.take ((ji7) : Int).toNat)).bind fun bt249 => ((some (([] : List Int) : List Int)).bind fun y253 => (if y253.length + t237.length < 140737488355328 then ((some (y253 ++ t237 : List Int)).bind fun y256 => (if y256.length < 140737488355328 then ((trace_Read.f (y256 ++ [0])).bind fun bt262 => (if t241 = 0 then (if bt249.2 = 11 then (if bt262.2 = 11 then (berthinglaw32_TraceBack.j0 k t234 a1 t240 ((t240.length : Int) != (t234.length : Int))) else (berthinglaw32_TraceBack.j0 k t234 a1 t240 true)) else (berthinglaw32_TraceBack.j0 k t234 a1 t240 true)) else (berthinglaw32_TraceBack.j0 k t234 a1 t240 true))) else (none))) else (none)))) else (none)) else (none)) = some r := by first | (rw [hji7] at H; exact H) | (simp only [hji7] at H ⊢; exact H)
  (try rw [hji7] at A3)
  (try rw [hji7] at A4)
  (try rw [hji7] at A6)
  have hji7w : (IntKind.i64.wrap ((t237.length : Int) - 1)) = ji7 := (i64_w _).trans hji7
  by_cases c8 : 0 ≤ (ji7)
  ·rw [if_pos c8] at H
   have c8b0 := eq_true c8
   have c8b1 : decide (0 ≤ (ji7)) = true := decide_eq_true c8
   clear c8
   by_cases c9 : (ji7) ≤ (t237.length : Int)
   ·rw [if_pos c9] at H
    have c9b0 := eq_true c9
    have c9b1 : decide ((ji7) ≤ (t237.length : Int)) = true := decide_eq_true c9
    clear c9
    obtain ⟨y244, hy244⟩ : ∃ y_ : List Int, y_ = (t237.take ((ji7) : Int).toNat) := ⟨_, rfl⟩
    replace H : ((trace_Read.f y244).bind fun bt249 => ((some (([] : List Int) : List Int)).bind fun y253 => (if y253.length + t237.length < 140737488355328 then ((some (y253 ++ t237 : List Int)).bind fun y256 => (if y256.length < 140737488355328 then ((trace_Read.f (y256 ++ [0])).bind fun bt262 => (if t241 = 0 then (if bt249.2 = 11 then (if bt262.2 = 11 then (berthinglaw32_TraceBack.j0 k t234 a1 t240 ((t240.length : Int) != (t234.length : Int))) else (berthinglaw32_TraceBack.j0 k t234 a1 t240 true)) else (berthinglaw32_TraceBack.j0 k t234 a1 t240 true)) else (berthinglaw32_TraceBack.j0 k t234 a1 t240 true))) else (none))) else (none)))) = some r := by first | (rw [hy244]; with_reducible exact H) | (have H2_ := (Option.bind_some _ _).symm.trans H; rw [hy244]; with_reducible exact H2_) | (have H2_ := (Option.bind_some _ _).symm.trans H; with_reducible exact H2_) | with_reducible exact H | (rw [hy244]; exact H) | exact H
    have Ny244 := Aside0.mk hy244
    clear hy244
    replace H := Option.bind_eq_some_iff.mp H
    obtain ⟨⟨t249, t250⟩, A100, H⟩ := H
    replace H : ((some (([] : List Int) : List Int)).bind fun y253 => (if y253.length + t237.length < 140737488355328 then ((some (y253 ++ t237 : List Int)).bind fun y256 => (if y256.length < 140737488355328 then ((trace_Read.f (y256 ++ [0])).bind fun bt262 => (if t241 = 0 then (if t250 = 11 then (if bt262.2 = 11 then (berthinglaw32_TraceBack.j0 k t234 a1 t240 ((t240.length : Int) != (t234.length : Int))) else (berthinglaw32_TraceBack.j0 k t234 a1 t240 true)) else (berthinglaw32_TraceBack.j0 k t234 a1 t240 true)) else (berthinglaw32_TraceBack.j0 k t234 a1 t240 true))) else (none))) else (none))) = some r := H
    have A10 := Aside0.mk A100
    clear A100
    obtain ⟨y253, hy253⟩ : ∃ y_ : List Int, y_ = (([] : List Int)) := ⟨_, rfl⟩
    replace H : (if y253.length + t237.length < 140737488355328 then ((some (y253 ++ t237 : List Int)).bind fun y256 => (if y256.length < 140737488355328 then ((trace_Read.f (y256 ++ [0])).bind fun bt262 => (if t241 = 0 then (if t250 = 11 then (if bt262.2 = 11 then (berthinglaw32_TraceBack.j0 k t234 a1 t240 ((t240.length : Int) != (t234.length : Int))) else (berthinglaw32_TraceBack.j0 k t234 a1 t240 true)) else (berthinglaw32_TraceBack.j0 k t234 a1 t240 true)) else (berthinglaw32_TraceBack.j0 k t234 a1 t240 true))) else (none))) else (none)) = some r := by first | (rw [hy253]; with_reducible exact H) | (have H2_ := (Option.bind_some _ _).symm.trans H; rw [hy253]; with_reducible exact H2_) | (have H2_ := (Option.bind_some _ _).symm.trans H; with_reducible exact H2_) | with_reducible exact H | (rw [hy253]; exact H) | exact H
    have Ny253 := Aside0.mk hy253
    clear hy253
    by_cases c11 : y253.length + t237.length < 140737488355328
    ·rw [if_pos c11] at H
     have LMc11 := Aside0.mk c11
     clear c11
     obtain ⟨y256, hy256⟩ : ∃ y_ : List Int, y_ = (y253 ++ t237) := ⟨_, rfl⟩
     replace H : (if y256.length < 140737488355328 then ((trace_Read.f (y256 ++ [0])).bind fun bt262 => (if t241 = 0 then (if t250 = 11 then (if bt262.2 = 11 then (berthinglaw32_TraceBack.j0 k t234 a1 t240 ((t240.length : Int) != (t234.length : Int))) else (berthinglaw32_TraceBack.j0 k t234 a1 t240 true)) else (berthinglaw32_TraceBack.j0 k t234 a1 t240 true)) else (berthinglaw32_TraceBack.j0 k t234 a1 t240 true))) else (none)) = some r := by first | (rw [hy256]; with_reducible exact H) | (have H2_ := (Option.bind_some _ _).symm.trans H; rw [hy256]; with_reducible exact H2_) | (have H2_ := (Option.bind_some _ _).symm.trans H; with_reducible exact H2_) | with_reducible exact H | (rw [hy256]; exact H) | exact H
     have Ny256 := Aside0.mk hy256
     clear hy256
     by_cases c12 : y256.length < 140737488355328
     ·rw [if_pos c12] at H
      have LMc12 := Aside0.mk c12
      clear c12
      obtain ⟨y259, hy259⟩ : ∃ y_ : List Int, y_ = (y256 ++ [0]) := ⟨_, rfl⟩
      replace H : ((trace_Read.f y259).bind fun bt262 => (if t241 = 0 then (if t250 = 11 then (if bt262.2 = 11 then (berthinglaw32_TraceBack.j0 k t234 a1 t240 ((t240.length : Int) != (t234.length : Int))) else (berthinglaw32_TraceBack.j0 k t234 a1 t240 true)) else (berthinglaw32_TraceBack.j0 k t234 a1 t240 true)) else (berthinglaw32_TraceBack.j0 k t234 a1 t240 true))) = some r := by first | (rw [hy259]; with_reducible exact H) | (have H2_ := (Option.bind_some _ _).symm.trans H; rw [hy259]; with_reducible exact H2_) | (have H2_ := (Option.bind_some _ _).symm.trans H; with_reducible exact H2_) | with_reducible exact H | (rw [hy259]; exact H) | exact H
      have Ny259 := Aside0.mk hy259
      clear hy259
      replace H := Option.bind_eq_some_iff.mp H
      obtain ⟨⟨t262, t263⟩, A130, H⟩ := H
      replace H : (if t241 = 0 then (if t250 = 11 then (if t263 = 11 then (berthinglaw32_TraceBack.j0 k t234 a1 t240 ((t240.length : Int) != (t234.length : Int))) else (berthinglaw32_TraceBack.j0 k t234 a1 t240 true)) else (berthinglaw32_TraceBack.j0 k t234 a1 t240 true)) else (berthinglaw32_TraceBack.j0 k t234 a1 t240 true)) = some r := H
      have A13 := Aside0.mk A130
      clear A130
      have HC14 := Aside0.mk H
      clear H
      go_enter Tryd.func5, Tryd.ntmps5
      go_upto_region 8 with (first | ((with_reducible refine gate_callee (f := 13) rfl ?_); refine goesL_ (some 16) rfl rfl Tryd.func13 (by kernel_rfl) rfl #[.slice A0 l0.length c0, .int .i64 40] rfl (by (try simp only [List.map_toArray, List.map_cons, List.map_nil]); first | done | rfl | (simp only [List.length_drop, List.length_take]; rfl)) ?_; (with_reducible refine (berthinglaw32_Tame.calls _ _ l0 40 t234 _ ?side1 ?side2 A3.out).mono ?_); (case side1 => repeat (first | exact HR0.out | (with_reducible refine Kd.C_alloc ?_ _) | (with_reducible refine Kd.C_drewN ?_ _) | (with_reducible refine Kd.C_drew ?_))); (case side2 => exact HC0.out); rintro e w15 ⟨v235, rfl, ho0, hb⟩; refine ⟨_, rfl, ?_⟩; have n0_ := Aside0.mk (Kd.R_lower ho0 (below_size (by repeat (first | (with_reducible first | exact HB.out | apply below_alloc | apply pw_below_drewN | apply below_drew1) | exact HB.out)))); have n1_ := Aside0.mk (below_step (by repeat (first | (with_reducible first | exact HB.out | apply below_alloc | apply pw_below_drewN | apply below_drew1) | exact HB.out)) hb); clear HB; have HO236 := n0_; have HB := n1_; clear n0_ n1_; (try clear hb); (try clear hb2); (try clear hk); (try clear hi); (try clear ho0); obtain ⟨Ao16, co16, eo16⟩ := Kd.R_slice HO236.out; subst eo16) | ((with_reducible refine gate_callee (f := 9) rfl ?_); refine goesL_ (some 18) rfl rfl Tryd.func9 (by kernel_rfl) rfl #[.slice Ao16 t234.length co16] rfl (by (try simp only [List.map_toArray, List.map_cons, List.map_nil]); first | done | rfl | (simp only [List.length_drop, List.length_take]; rfl)) ?_; (with_reducible refine (trace_Put.calls k _ _ t234 t237 _ ?side1 ?side2 A4.out).mono ?_); (case side1 => repeat (first | exact (Kd.R_reads' HO236.out).2.2 | (with_reducible refine Kd.C_alloc ?_ _) | (with_reducible refine Kd.C_drewN ?_ _) | (with_reducible refine Kd.C_drew ?_))); (case side2 => exact (Kd.R_reads' HO236.out).2.1); rintro e w17 ⟨v238, rfl, ho0, hb⟩; refine ⟨_, rfl, ?_⟩; have n0_ := Aside0.mk (Kd.R_below (by (with_reducible repeat (first | apply Kd.R_alloc | apply Kd.R_drewN | apply Kd.R_drew)); exact HO236.out) hb); have n1_ := Aside0.mk (Kd.V_lower (Kd.V_mono (ok' := fun k_ => some k_ ≠ (.slice Ao16 t234.length co16 : Value).ownBlock) ho0 (fun k_ hk_ => (Kd.fresh' (Kd.R_lt (by (with_reducible repeat (first | apply Kd.R_alloc | apply Kd.R_drewN | apply Kd.R_drew)); exact HO236.out)) k_ hk_))) (below_size (by repeat (first | (with_reducible first | exact HB.out | apply below_alloc | apply pw_below_drewN | apply below_drew1) | exact HB.out)))); have n2_ := Aside0.mk (below_step (by repeat (first | (with_reducible first | exact HB.out | apply below_alloc | apply pw_below_drewN | apply below_drew1) | exact HB.out)) hb); clear HO236; clear HB; have HO236 := n0_; have HO239 := n1_; have HB := n2_; clear n0_ n1_ n2_; (try clear hb); (try clear hb2); (try clear hk); (try clear hi); (try clear ho0); obtain ⟨Ao18, co18, eo18⟩ := Kd.V_slice HO239.out; subst eo18) | ((with_reducible refine gate_callee (f := 7) rfl ?_); refine goesL_ (some 24) rfl rfl Tryd.func7 (by kernel_rfl) rfl #[.slice Ao18 t237.length co18] rfl (by (try simp only [List.map_toArray, List.map_cons, List.map_nil]); first | done | rfl | (simp only [List.length_drop, List.length_take]; rfl)) ?_; (with_reducible refine (trace_Read.calls _ _ t237 t240 t241 _ (Cur.ErrT.go (by repeat (first | (with_reducible first | exact HB.out | apply below_alloc | apply pw_below_drewN | apply below_drew1) | exact HB.out)) hT) ?side1 ?side2 A6.out).mono ?_); (case side1 => repeat (first | exact (Kd.V_reads' HO239.out).2.2 | (with_reducible refine Kd.C_alloc ?_ _) | (with_reducible refine Kd.C_drewN ?_ _) | (with_reducible refine Kd.C_drew ?_))); (case side2 => exact (Kd.V_reads' HO239.out).2.1); rintro e w19 ⟨v242, rfl, ho0, hb⟩; refine ⟨_, rfl, ?_⟩; have n0_ := Aside0.mk (Kd.R_elder' (by (with_reducible repeat (first | apply Kd.R_alloc | apply Kd.R_drewN | apply Kd.R_drew)); exact HO236.out) (Kd.R_base ho0) hb); have n1_ := Aside0.mk (Kd.V_elder' (by (with_reducible repeat (first | apply Kd.V_alloc | apply Kd.V_drewN | apply Kd.V_drew)); exact HO239.out) (Kd.R_base ho0) hb); have n2_ := Aside0.mk (Kd.R_lower (Kd.R_new' ho0 (Kd.R_lt (by (with_reducible repeat (first | apply Kd.R_alloc | apply Kd.R_drewN | apply Kd.R_drew)); exact HO236.out))) (below_size (by repeat (first | (with_reducible first | exact HB.out | apply below_alloc | apply pw_below_drewN | apply below_drew1) | exact HB.out)))); have n3_ := Aside0.mk (below_step (by repeat (first | (with_reducible first | exact HB.out | apply below_alloc | apply pw_below_drewN | apply below_drew1) | exact HB.out)) hb); clear HO236; clear HO239; clear HB; have HO236 := n0_; have HO239 := n1_; have HO243 := n2_; have HB := n3_; clear n0_ n1_ n2_ n3_; (try clear hb); (try clear hb2); (try clear hk); (try clear hi); (try clear ho0); have q20 : ((ji7) : Int) ≤ ((t237.length : Int) : Int) := of_decide_eq_true (by first | (with_reducible assumption) | assumption); obtain ⟨i020, hi020, _, hsz20, _⟩ := info_parts info5; have hroom20 : t237.length ≤ co18 := (Kd.V_reads' HO239.out).2.1; have hC20 : Kd.F (Kd.int .u8) _ _ Ao18 t237.length t237 := (Kd.V_at (base := w.heap.size) HO239.out).2.2; have hcut20 := cut_to (P := Tryd.prog) 23 5 .i64 Tryd.underlying23 hi020 Ao18 t237.length co18 (ji7) (of_decide_eq_true (by first | (with_reducible assumption) | assumption)) q20 hroom20; have hr20 := Kd.F_take (m := ((ji7) : Int).toNat) hC20 (by omega); have hy20 : y244.length = ((ji7) : Int).toNat := (by rw [Ny244.out, List.length_take]; omega); rw [← Ny244.out] at hr20; rw [← hy20] at hcut20; have HO248 := Aside0.mk (show Kd.V (Kd.int .u8) 5 _ w.heap.size _ (.slice Ao18 y244.length co18) y244 from Kd.V_mk (by omega) hr20); have HC248 := Aside0.mk (show y244.length ≤ co18 from by omega); clear hr20 hC20 hroom20 hi020 hsz20; have KY20 := Aside0.mk hy20; clear hy20; replace q20 := eq_true q20) | ((with_reducible refine gate_callee (f := 7) rfl ?_); refine goesL_ (some 33) rfl rfl Tryd.func7 (by kernel_rfl) rfl #[.slice Ao18 y244.length co18] rfl (by (try simp only [List.map_toArray, List.map_cons, List.map_nil]); first | done | rfl | (simp only [List.length_drop, List.length_take]; rfl)) ?_; (with_reducible refine (trace_Read.calls _ _ y244 t249 t250 _ (Cur.ErrT.go (by repeat (first | (with_reducible first | exact HB.out | apply below_alloc | apply pw_below_drewN | apply below_drew1) | exact HB.out)) hT) ?side1 ?side2 A10.out).mono ?_); (case side1 => repeat (first | exact (Kd.V_reads' HO248.out).2.2 | (with_reducible refine Kd.C_alloc ?_ _) | (with_reducible refine Kd.C_drewN ?_ _) | (with_reducible refine Kd.C_drew ?_))); (case side2 => exact (Kd.V_reads' HO248.out).2.1); rintro e w21 ⟨v251, rfl, ho0, hb⟩; refine ⟨_, rfl, ?_⟩; have n0_ := Aside0.mk (Kd.R_elder' (by (with_reducible repeat (first | apply Kd.R_alloc | apply Kd.R_drewN | apply Kd.R_drew)); exact HO236.out) (Kd.R_base ho0) hb); have n1_ := Aside0.mk (Kd.V_elder' (by (with_reducible repeat (first | apply Kd.V_alloc | apply Kd.V_drewN | apply Kd.V_drew)); exact HO239.out) (Kd.R_base ho0) hb); have n2_ := Aside0.mk (Kd.R_elder' (by (with_reducible repeat (first | apply Kd.R_alloc | apply Kd.R_drewN | apply Kd.R_drew)); exact HO243.out) (Kd.R_base ho0) hb); have n3_ := Aside0.mk (Kd.V_elder' (by (with_reducible repeat (first | apply Kd.V_alloc | apply Kd.V_drewN | apply Kd.V_drew)); exact HO248.out) (Kd.R_base ho0) hb); have n4_ := Aside0.mk (Kd.R_lower (Kd.R_new' (Kd.R_new' ho0 (Kd.R_lt (by (with_reducible repeat (first | apply Kd.R_alloc | apply Kd.R_drewN | apply Kd.R_drew)); exact HO236.out))) (Kd.R_lt (by (with_reducible repeat (first | apply Kd.R_alloc | apply Kd.R_drewN | apply Kd.R_drew)); exact HO243.out))) (below_size (by repeat (first | (with_reducible first | exact HB.out | apply below_alloc | apply pw_below_drewN | apply below_drew1) | exact HB.out)))); have n5_ := Aside0.mk (below_step (by repeat (first | (with_reducible first | exact HB.out | apply below_alloc | apply pw_below_drewN | apply below_drew1) | exact HB.out)) hb); clear HO236; clear HO239; clear HO243; clear HO248; clear HB; have HO236 := n0_; have HO239 := n1_; have HO243 := n2_; have HO248 := n3_; have HO252 := n4_; have HB := n5_; clear n0_ n1_ n2_ n3_ n4_ n5_; (try clear hb); (try clear hb2); (try clear hk); (try clear hi); (try clear ho0)) | ((with_reducible refine gate_dst (N := 37) rfl ?_); (try (refine gate_guard (by rfl) ?_; dsimp only)); refine Kd.R_lit (Kd.int .u8) _ 5 ?hg (N := 37) ?hd (xs := ([] : List Int)) (inner := []) (ok := fun _ => True) (okp := fun _ => True) ?hr ?hp (fun _ hk => hk) trivial (Below.refl _ _) (Nat.le_refl _) (by simp) ?_; (case hd => rfl); (case hg => rfl); (case hr => first | (go_simp; done) | (go_simp; rfl)); (case hp => exact (Reps.none _ _)); intro v254 w22 ho23 hb hg_ hnew_; clear hg_ hnew_; (first | rw [← Ny253.out] at ho23 | (simp only [Int.reduceToNat] at ho23; rw [← Ny253.out] at ho23)); have n0_ := Aside0.mk (Kd.R_below (by (with_reducible repeat (first | apply Kd.R_alloc | apply Kd.R_drewN | apply Kd.R_drew)); exact HO236.out) hb); have n1_ := Aside0.mk (Kd.V_elder' (by (with_reducible repeat (first | apply Kd.V_alloc | apply Kd.V_drewN | apply Kd.V_drew)); exact HO239.out) (Kd.R_base ho23) hb); have n2_ := Aside0.mk (Kd.R_below (by (with_reducible repeat (first | apply Kd.R_alloc | apply Kd.R_drewN | apply Kd.R_drew)); exact HO243.out) hb); have n3_ := Aside0.mk (Kd.V_elder' (by (with_reducible repeat (first | apply Kd.V_alloc | apply Kd.V_drewN | apply Kd.V_drew)); exact HO248.out) (Kd.R_base ho23) hb); have n4_ := Aside0.mk (Kd.R_below (by (with_reducible repeat (first | apply Kd.R_alloc | apply Kd.R_drewN | apply Kd.R_drew)); exact HO252.out) hb); have n5_ := Aside0.mk (Kd.R_lower ho23 (below_size (by repeat (first | (with_reducible first | exact HB.out | apply below_alloc | apply pw_below_drewN | apply below_drew1) | exact HB.out)))); have n6_ := Aside0.mk (below_step (by repeat (first | (with_reducible first | exact HB.out | apply below_alloc | apply pw_below_drewN | apply below_drew1) | exact HB.out)) hb); clear HO236; clear HO239; clear HO243; clear HO248; clear HO252; clear HB; have HO236 := n0_; have HO239 := n1_; have HO243 := n2_; have HO248 := n3_; have HO252 := n4_; have HO255 := n5_; have HB := n6_; clear n0_ n1_ n2_ n3_ n4_ n5_ n6_; clear hb ho23) | ((with_reducible refine gate_builtin (b := .append) (xs := #[.tmp 37, .tmp 38]) rfl ?_); (try (refine gate_guard (by rfl) ?_; dsimp only)); at_builtin; refine Kd.R_append_rows (Kd.int .u8) (w0 := w) w.heap.size rfl (.tmp 37) (.tmp 38) 23 5 (.int .u8 0) 1 rfl Tryd.underlying23 info5 rfl (by decide) (by omega) v254 y253 t237 _ _ _ (fun _ => True) (fun _ => False) rfl rfl ?aO ?aR (fun _ _ h => h) (fun _ h => h.elim) ?aF ?aB ?aS ?aL ?_; (case aR => repeat (first | exact (Kd.V_reads' HO239.out).2.2 | (with_reducible refine Kd.C_alloc ?_ _) | (with_reducible refine Kd.C_drewN ?_ _) | (with_reducible refine Kd.C_drew ?_))); (case aB => exact (by repeat (first | (with_reducible first | exact HB.out | apply below_alloc | apply pw_below_drewN | apply below_drew1) | exact HB.out))); (case aF => exact (fun _ _ => trivial)); (case aO => exact (by (with_reducible repeat (first | apply Kd.R_alloc | apply Kd.R_drewN | apply Kd.R_drew)); exact HO255.out)); (case aS => exact (below_size (by repeat (first | (with_reducible first | exact HB.out | apply below_alloc | apply pw_below_drewN | apply below_drew1) | exact HB.out)))); (case aL => have := LMc11.out; omega); intro v257 w24 ho hb hg hat; rw [← Ny256.out] at ho; have n0_ := Aside0.mk (Kd.R_over' (by (with_reducible repeat (first | apply Kd.R_alloc | apply Kd.R_drewN | apply Kd.R_drew)); exact HO236.out) (Kd.R_typed (by (with_reducible repeat (first | apply Kd.R_alloc | apply Kd.R_drewN | apply Kd.R_drew)); exact HO255.out)) (by decide) hg); have n1_ := Aside0.mk (Kd.V_afterv (ok := (fun k_ => some k_ ≠ (.slice Ao16 t234.length co16 : Value).ownBlock ∧ some k_ ≠ (v242 : Value).ownBlock ∧ some k_ ≠ (v251 : Value).ownBlock)) (by (with_reducible repeat (first | apply Kd.V_alloc | apply Kd.V_drewN | apply Kd.V_drew)); exact Kd.V_mono HO239.out (fun _ hk => ⟨⟨hk.1.1.1, ⟨hk.1.1.2, hk.1.2⟩⟩, hk.2⟩)) hg hat); have n2_ := Aside0.mk (Kd.R_over' (by (with_reducible repeat (first | apply Kd.R_alloc | apply Kd.R_drewN | apply Kd.R_drew)); exact HO243.out) (Kd.R_typed (by (with_reducible repeat (first | apply Kd.R_alloc | apply Kd.R_drewN | apply Kd.R_drew)); exact HO255.out)) (by decide) hg); have n3_ := Aside0.mk (Kd.V_afterv (ok := (fun k_ => some k_ ≠ (.slice Ao16 t234.length co16 : Value).ownBlock ∧ some k_ ≠ (v242 : Value).ownBlock ∧ some k_ ≠ (v251 : Value).ownBlock)) (by (with_reducible repeat (first | apply Kd.V_alloc | apply Kd.V_drewN | apply Kd.V_drew)); exact Kd.V_mono HO248.out (fun _ hk => ⟨⟨hk.1.1.1, ⟨hk.1.1.2, hk.1.2⟩⟩, hk.2⟩)) hg hat); have n4_ := Aside0.mk (Kd.R_over' (by (with_reducible repeat (first | apply Kd.R_alloc | apply Kd.R_drewN | apply Kd.R_drew)); exact HO252.out) (Kd.R_typed (by (with_reducible repeat (first | apply Kd.R_alloc | apply Kd.R_drewN | apply Kd.R_drew)); exact HO255.out)) (by decide) hg); have n5_ := Aside0.mk (hb); have n6_ := Aside0.mk (ho); clear HO236; clear HO239; clear HO243; clear HO248; clear HO252; clear HB; clear HO255; have HO236 := n0_; have HO239 := n1_; have HO243 := n2_; have HO248 := n3_; have HO252 := n4_; have HB := n5_; have HO258 := n6_; clear n0_ n1_ n2_ n3_ n4_ n5_ n6_; clear ho hb hg hat) | ((with_reducible refine gate_builtin (b := .append) (xs := #[.tmp 39, .tmp 40]) rfl ?_); (try (refine gate_guard (by rfl) ?_; dsimp only)); at_builtin; refine Kd.R_append (Kd.int .u8) (w0 := w) w.heap.size rfl (.tmp 39) (.tmp 40) 23 5 (.int .u8 0) 1 rfl Tryd.underlying23 info5 rfl (by decide) (by omega) v257 y256 0 [.int .u8 0] (fun _ => True) (fun _ => False) rfl rfl ?aP (fun _ hk => hk.elim) ?aF ?aO ?aB ?aS ?aL ?_; (case aP => exact rfl); (case aB => exact (by repeat (first | (with_reducible first | exact HB.out | apply below_alloc | apply pw_below_drewN | apply below_drew1) | exact HB.out))); (case aF => exact (fun _ _ => trivial)); (case aO => exact (by (with_reducible repeat (first | apply Kd.R_alloc | apply Kd.R_drewN | apply Kd.R_drew)); exact HO258.out)); (case aS => exact (below_size (by repeat (first | (with_reducible first | exact HB.out | apply below_alloc | apply pw_below_drewN | apply below_drew1) | exact HB.out)))); (case aL => have := LMc12.out; omega); intro v260 w25 ho hb hg hat; rw [← Ny259.out] at ho; have n0_ := Aside0.mk (Kd.R_over' (by (with_reducible repeat (first | apply Kd.R_alloc | apply Kd.R_drewN | apply Kd.R_drew)); exact HO236.out) (Kd.R_typed (by (with_reducible repeat (first | apply Kd.R_alloc | apply Kd.R_drewN | apply Kd.R_drew)); exact HO258.out)) (by decide) hg); have n1_ := Aside0.mk (Kd.V_afterv (ok := (fun k_ => some k_ ≠ (.slice Ao16 t234.length co16 : Value).ownBlock ∧ some k_ ≠ (v242 : Value).ownBlock ∧ some k_ ≠ (v251 : Value).ownBlock)) (by (with_reducible repeat (first | apply Kd.V_alloc | apply Kd.V_drewN | apply Kd.V_drew)); exact HO239.out) hg hat); have n2_ := Aside0.mk (Kd.R_over' (by (with_reducible repeat (first | apply Kd.R_alloc | apply Kd.R_drewN | apply Kd.R_drew)); exact HO243.out) (Kd.R_typed (by (with_reducible repeat (first | apply Kd.R_alloc | apply Kd.R_drewN | apply Kd.R_drew)); exact HO258.out)) (by decide) hg); have n3_ := Aside0.mk (Kd.V_afterv (ok := (fun k_ => some k_ ≠ (.slice Ao16 t234.length co16 : Value).ownBlock ∧ some k_ ≠ (v242 : Value).ownBlock ∧ some k_ ≠ (v251 : Value).ownBlock)) (by (with_reducible repeat (first | apply Kd.V_alloc | apply Kd.V_drewN | apply Kd.V_drew)); exact HO248.out) hg hat); have n4_ := Aside0.mk (Kd.R_over' (by (with_reducible repeat (first | apply Kd.R_alloc | apply Kd.R_drewN | apply Kd.R_drew)); exact HO252.out) (Kd.R_typed (by (with_reducible repeat (first | apply Kd.R_alloc | apply Kd.R_drewN | apply Kd.R_drew)); exact HO258.out)) (by decide) hg); have n5_ := Aside0.mk (hb); have n6_ := Aside0.mk (ho); clear HO236; clear HO239; clear HO243; clear HO248; clear HO252; clear HB; clear HO258; have HO236 := n0_; have HO239 := n1_; have HO243 := n2_; have HO248 := n3_; have HO252 := n4_; have HB := n5_; have HO261 := n6_; clear n0_ n1_ n2_ n3_ n4_ n5_ n6_; clear ho hb hg hat; obtain ⟨Ao26, co26, eo26⟩ := Kd.R_slice HO261.out; subst eo26) | ((with_reducible refine gate_callee (f := 7) rfl ?_); refine goesL_ (some 42) rfl rfl Tryd.func7 (by kernel_rfl) rfl #[.slice Ao26 y259.length co26] rfl (by (try simp only [List.map_toArray, List.map_cons, List.map_nil]); first | done | rfl | (simp only [List.length_drop, List.length_take]; rfl)) ?_; (with_reducible refine (trace_Read.calls _ _ y259 t262 t263 _ (Cur.ErrT.go (by repeat (first | (with_reducible first | exact HB.out | apply below_alloc | apply pw_below_drewN | apply below_drew1) | exact HB.out)) hT) ?side1 ?side2 A13.out).mono ?_); (case side1 => repeat (first | exact (Kd.R_reads' HO261.out).2.2 | (with_reducible refine Kd.C_alloc ?_ _) | (with_reducible refine Kd.C_drewN ?_ _) | (with_reducible refine Kd.C_drew ?_))); (case side2 => exact (Kd.R_reads' HO261.out).2.1); rintro e w27 ⟨v264, rfl, ho0, hb⟩; refine ⟨_, rfl, ?_⟩; have n0_ := Aside0.mk (Kd.R_elder' (by (with_reducible repeat (first | apply Kd.R_alloc | apply Kd.R_drewN | apply Kd.R_drew)); exact HO236.out) (Kd.R_base ho0) hb); have n1_ := Aside0.mk (Kd.V_elder' (by (with_reducible repeat (first | apply Kd.V_alloc | apply Kd.V_drewN | apply Kd.V_drew)); exact HO239.out) (Kd.R_base ho0) hb); have n2_ := Aside0.mk (Kd.R_elder' (by (with_reducible repeat (first | apply Kd.R_alloc | apply Kd.R_drewN | apply Kd.R_drew)); exact HO243.out) (Kd.R_base ho0) hb); have n3_ := Aside0.mk (Kd.V_elder' (by (with_reducible repeat (first | apply Kd.V_alloc | apply Kd.V_drewN | apply Kd.V_drew)); exact HO248.out) (Kd.R_base ho0) hb); have n4_ := Aside0.mk (Kd.R_elder' (by (with_reducible repeat (first | apply Kd.R_alloc | apply Kd.R_drewN | apply Kd.R_drew)); exact HO252.out) (Kd.R_base ho0) hb); have n5_ := Aside0.mk (Kd.R_below (by (with_reducible repeat (first | apply Kd.R_alloc | apply Kd.R_drewN | apply Kd.R_drew)); exact HO261.out) hb); have n6_ := Aside0.mk (Kd.R_lower (Kd.R_new' (Kd.R_new' (Kd.R_new' ho0 (Kd.R_lt (by (with_reducible repeat (first | apply Kd.R_alloc | apply Kd.R_drewN | apply Kd.R_drew)); exact HO236.out))) (Kd.R_lt (by (with_reducible repeat (first | apply Kd.R_alloc | apply Kd.R_drewN | apply Kd.R_drew)); exact HO243.out))) (Kd.R_lt (by (with_reducible repeat (first | apply Kd.R_alloc | apply Kd.R_drewN | apply Kd.R_drew)); exact HO252.out))) (below_size (by repeat (first | (with_reducible first | exact HB.out | apply below_alloc | apply pw_below_drewN | apply below_drew1) | exact HB.out)))); have n7_ := Aside0.mk (below_step (by repeat (first | (with_reducible first | exact HB.out | apply below_alloc | apply pw_below_drewN | apply below_drew1) | exact HB.out)) hb); clear HO236; clear HO239; clear HO243; clear HO248; clear HO252; clear HO261; clear HB; have HO236 := n0_; have HO239 := n1_; have HO243 := n2_; have HO248 := n3_; have HO252 := n4_; have HO261 := n5_; have HO265 := n6_; have HB := n7_; clear n0_ n1_ n2_ n3_ n4_ n5_ n6_ n7_; (try clear hb); (try clear hb2); (try clear hk); (try clear hi); (try clear ho0)))
      (try simp only [Act.put, List.setIfInBounds_toArray, List.set_cons_zero, List.set_cons_succ])
      go_cut [61] (fun v61 wc => ∃ (kq : Nat) (x61_13 : Bool), v61 = .bool x61_13 ∧ Aside0 (berthinglaw32_TraceBack.j0 kq t234 a1 t240 x61_13 = some r) ∧ Aside0 (kq ≤ k) ∧ Aside0 (Kd.R k46 46 wc w.heap.size (fun k_ => some k_ ≠ (v242 : Value).ownBlock) (.slice Ao16 t234.length co16) t234) ∧ Aside0 (Kd.R k46 46 wc w.heap.size (fun k_ => some k_ ≠ ((.slice Ao16 t234.length co16) : Value).ownBlock) v242 t240) ∧ Aside0 (Below w.heap.size w wc))
      case first =>
       have H := HC14.out
       clear HC14
       by_cases c28 : t241 = 0
       ·rw [if_pos c28] at H
        have c28b0 : (t241 == 0) = true := beq_iff_eq.mpr c28
        have c28b1 : (t241 != 0) = false := bne_eq_false_iff_eq.mpr c28
        clear c28
        (first | rw [c28b0] | (simp only [i64_w, i32_w]; rw [c28b0]) | skip)
        by_cases c29 : t250 = 11
        ·rw [if_pos c29] at H
         have c29b0 : (t250 == 11) = true := beq_iff_eq.mpr c29
         have c29b1 : (t250 != 11) = false := bne_eq_false_iff_eq.mpr c29
         clear c29
         by_cases c30 : t263 = 11
         ·rw [if_pos c30] at H
          have c30b0 : (t263 == 11) = true := beq_iff_eq.mpr c30
          have c30b1 : (t263 != 11) = false := bne_eq_false_iff_eq.mpr c30
          clear c30
          have H' := Aside0.mk H
          clear H
          obtain ⟨Ao31, co31, eo31⟩ := Kd.R_slice HO243.out
          subst eo31
          go_wp2
          go_meet
          case rel => exact ⟨_, (((t240.length : Int) != (t234.length : Int))), (by first | rfl | (simp; done) | (simp [*]; done)), H', ⟨by first | omega | exact Nat.le_refl _⟩, ⟨by (with_reducible repeat (first | apply Kd.R_alloc | apply Kd.R_drewN | apply Kd.R_drew)); exact Kd.R_mono HO236.out (fun _ hk => hk.1.1.2)⟩, ⟨by (with_reducible repeat (first | apply Kd.R_alloc | apply Kd.R_drewN | apply Kd.R_drew)); exact Kd.R_mono HO243.out (fun _ hk => hk.1.1.2)⟩, ⟨by repeat (first | (with_reducible first | exact HB.out | apply below_alloc | apply pw_below_drewN | apply below_drew1) | exact HB.out)⟩⟩
         ·rw [if_neg c30] at H
          have c30b0 : (t263 == 11) = false := beq_eq_false_iff_ne.mpr c30
          have c30b1 : (t263 != 11) = true := bne_iff_ne.mpr c30
          have H' := Aside0.mk H
          clear H
          go_wp2
          go_meet
          case rel => exact ⟨_, (true), (by first | rfl | (simp; done) | (simp [*]; done)), H', ⟨by first | omega | exact Nat.le_refl _⟩, ⟨by (with_reducible repeat (first | apply Kd.R_alloc | apply Kd.R_drewN | apply Kd.R_drew)); exact Kd.R_mono HO236.out (fun _ hk => hk.1.1.2)⟩, ⟨by (with_reducible repeat (first | apply Kd.R_alloc | apply Kd.R_drewN | apply Kd.R_drew)); exact Kd.R_mono HO243.out (fun _ hk => hk.1.1.2)⟩, ⟨by repeat (first | (with_reducible first | exact HB.out | apply below_alloc | apply pw_below_drewN | apply below_drew1) | exact HB.out)⟩⟩
        ·rw [if_neg c29] at H
         have c29b0 : (t250 == 11) = false := beq_eq_false_iff_ne.mpr c29
         have c29b1 : (t250 != 11) = true := bne_iff_ne.mpr c29
         have H' := Aside0.mk H
         clear H
         go_wp2
         go_meet
         case rel => exact ⟨_, (true), (by first | rfl | (simp; done) | (simp [*]; done)), H', ⟨by first | omega | exact Nat.le_refl _⟩, ⟨by (with_reducible repeat (first | apply Kd.R_alloc | apply Kd.R_drewN | apply Kd.R_drew)); exact Kd.R_mono HO236.out (fun _ hk => hk.1.1.2)⟩, ⟨by (with_reducible repeat (first | apply Kd.R_alloc | apply Kd.R_drewN | apply Kd.R_drew)); exact Kd.R_mono HO243.out (fun _ hk => hk.1.1.2)⟩, ⟨by repeat (first | (with_reducible first | exact HB.out | apply below_alloc | apply pw_below_drewN | apply below_drew1) | exact HB.out)⟩⟩
       ·rw [if_neg c28] at H
        have c28b0 : (t241 == 0) = false := beq_eq_false_iff_ne.mpr c28
        have c28b1 : (t241 != 0) = true := bne_iff_ne.mpr c28
        (first | rw [c28b0] | (simp only [i64_w, i32_w]; rw [c28b0]) | skip)
        have H' := Aside0.mk H
        clear H
        go_wp2
        go_meet
        case rel => exact ⟨_, (true), (by first | rfl | (simp; done) | (simp [*]; done)), H', ⟨by first | omega | exact Nat.le_refl _⟩, ⟨by (with_reducible repeat (first | apply Kd.R_alloc | apply Kd.R_drewN | apply Kd.R_drew)); exact Kd.R_mono HO236.out (fun _ hk => hk.1.1.2)⟩, ⟨by (with_reducible repeat (first | apply Kd.R_alloc | apply Kd.R_drewN | apply Kd.R_drew)); exact Kd.R_mono HO243.out (fun _ hk => hk.1.1.2)⟩, ⟨by repeat (first | (with_reducible first | exact HB.out | apply below_alloc | apply pw_below_drewN | apply below_drew1) | exact HB.out)⟩⟩
      case rest =>
       clear HC14
       try clear c1
       try clear c2
       try clear p2
       try clear q2
       try clear c3
       try clear c5
       try clear c5b0
       try clear c5b1
       try clear c5b2
       try clear p6
       try clear c7
       try clear c8
       try clear c8b0
       try clear c8b1
       try clear c9
       try clear c9b0
       try clear c9b1
       try clear c11
       try clear c12
       try clear c13
       try clear q20
       try clear c28
       try clear c28b0
       try clear c28b1
       try clear c29
       try clear c29b0
       try clear c29b1
       try clear c30
       try clear c30b0
       try clear c30b1
       try clear q20
       obtain ⟨kq, x61_13, rfl, HA, HJ13, HO_0, HO_6, HB⟩ := hcut
       cases kq with
       | zero => exact absurd HA.out (by simp [berthinglaw32_TraceBack.j0])
       | succ kj13 =>
        have H := HA.out
        clear HA
        simp only [berthinglaw32_TraceBack.j0] at H
        by_cases c32 : x61_13 = true
        ·subst c32
         have H1 : (none) = some r := by rw [if_pos rfl] at H; exact H
         clear H
         have H := H1
         clear H1
         exact absurd H (by simp)
        ·replace c32 := Bool.eq_false_iff.mpr c32
         subst c32
         have H1 : (berthinglaw32_TraceBack.l0 kj13 t234 a1 t240 0) = some r := by rw [if_neg (show ¬ (false = true) by decide)] at H; exact H
         clear H
         have H := H1
         clear H1
         have H' := Aside0.mk H
         clear H
         go_wp2
         go_loopg [12] kj13 (fun kq v12 w' => ∃ (x12_2 : Int), v12 = .int .i64 x12_2 ∧ Aside0 (berthinglaw32_TraceBack.l0 kq t234 a1 t240 x12_2 = some r) ∧ Aside0 (kq ≤ kj13) ∧ Aside0 (Kd.R k46 46 w' w.heap.size (fun k_ => some k_ ≠ (v242 : Value).ownBlock) (.slice Ao16 t234.length co16) t234) ∧ Aside0 (Kd.R k46 46 w' w.heap.size (fun k_ => some k_ ≠ ((.slice Ao16 t234.length co16) : Value).ownBlock) v242 t240) ∧ Aside0 (Below w.heap.size w w'))
         case atStart => exact ⟨(0), (by first | rfl | (simp; done) | (simp [*]; done)), H', ⟨Nat.le_refl _⟩, ⟨by (with_reducible repeat (first | apply Kd.R_alloc | apply Kd.R_drewN | apply Kd.R_drew)); exact HO_0.out⟩, ⟨by (with_reducible repeat (first | apply Kd.R_alloc | apply Kd.R_drewN | apply Kd.R_drew)); exact HO_6.out⟩, ⟨by repeat (first | (with_reducible first | exact HB.out | apply below_alloc | apply pw_below_drewN | apply below_drew1) | exact HB.out)⟩⟩
         case round =>
          clear H'
          try clear c1
          try clear c2
          try clear p2
          try clear q2
          try clear c3
          try clear c5
          try clear c5b0
          try clear c5b1
          try clear c5b2
          try clear p6
          try clear c7
          try clear c8
          try clear c8b0
          try clear c8b1
          try clear c9
          try clear c9b0
          try clear c9b1
          try clear c11
          try clear c12
          try clear c13
          try clear q20
          try clear c28
          try clear c28b0
          try clear c28b1
          try clear c29
          try clear c29b0
          try clear c29b1
          try clear c30
          try clear c30b0
          try clear c30b1
          try clear c32
          try clear p2
          try clear p6
          try clear q2
          try clear q20
          obtain ⟨x12_2, rfl, HA, HK2, HO_0, HO_6, HB⟩ := hrel
          cases gk with
          | zero => exact absurd HA.out (by simp [berthinglaw32_TraceBack.l0])
          | succ k2 =>
           have H := HA.out
           clear HA
           simp only [berthinglaw32_TraceBack.l0] at H
           by_cases c33 : x12_2 < (t234.length : Int)
           ·rw [if_pos c33] at H
            have c33b0 : decide (x12_2 < (t234.length : Int)) = true := decide_eq_true c33
            clear c33
            by_cases c34 : 0 ≤ x12_2
            ·rw [if_pos c34] at H
             have c34b0 : decide (0 ≤ x12_2) = true := decide_eq_true c34
             clear c34
             by_cases c35 : x12_2 < (t240.length : Int)
             ·rw [if_pos c35] at H
              have c35b0 : decide (x12_2 < (t240.length : Int)) = true := decide_eq_true c35
              clear c35
              by_cases c36 : (!(((rd_T46 t240 x12_2).f0) == ((rd_T46 t234 x12_2).f0)) || (!(((rd_T46 t240 x12_2).f1) == ((rd_T46 t234 x12_2).f1)) || (!(((rd_T46 t240 x12_2).f2) == ((rd_T46 t234 x12_2).f2)) || (!(((rd_T46 t240 x12_2).f3) == ((rd_T46 t234 x12_2).f3)) || (!(((rd_T46 t240 x12_2).f4) == ((rd_T46 t234 x12_2).f4)) || (!(((rd_T46 t240 x12_2).f5) == ((rd_T46 t234 x12_2).f5)) || (!(((rd_T46 t240 x12_2).f6) == ((rd_T46 t234 x12_2).f6))))))))) = true
              ·rw [if_pos c36] at H
               exact absurd H (by simp)
              ·rw [if_neg c36] at H
               have c36b0 : (!(((rd_T46 t240 x12_2).f0) == ((rd_T46 t234 x12_2).f0)) || (!(((rd_T46 t240 x12_2).f1) == ((rd_T46 t234 x12_2).f1)) || (!(((rd_T46 t240 x12_2).f2) == ((rd_T46 t234 x12_2).f2)) || (!(((rd_T46 t240 x12_2).f3) == ((rd_T46 t234 x12_2).f3)) || (!(((rd_T46 t240 x12_2).f4) == ((rd_T46 t234 x12_2).f4)) || (!(((rd_T46 t240 x12_2).f5) == ((rd_T46 t234 x12_2).f5)) || (!(((rd_T46 t240 x12_2).f6) == ((rd_T46 t234 x12_2).f6))))))))) = false := by simpa using c36
               clear c36
               have H' := Aside0.mk H
               clear H
               try go_wp2
               have n0_ := Aside0.mk (Kd.R_drew HO_0.out)
               have n1_ := Aside0.mk (Kd.R_drew HO_6.out)
               have n2_ := Aside0.mk (below_drew1 HB.out)
               clear HO_0
               clear HO_6
               clear HB
               have HO_0 := n0_
               have HO_6 := n1_
               have HB := n2_
               clear n0_ n1_ n2_
               obtain ⟨Ao38, co38, eo38⟩ := Kd.R_slice HO_6.out
               (first | subst eo38 | (injection eo38 with f1_ f2_ f3_; have f4_ := f1_.symm; have f5_ := f3_.symm; clear f1_ f2_ f3_; subst f4_; subst f5_))
               have p266 : 0 ≤ (x12_2 : Int) := of_decide_eq_true (by first | (with_reducible assumption) | assumption)
               have q266 : x12_2 < (t240.length : Int) := of_decide_eq_true (by first | (with_reducible assumption) | assumption)
               obtain ⟨ad266, e266, hx266_0, hx266_1, hx266_2, hx266_3, hx266_4, hx266_5, hx266_6⟩ := at_T46 (Kd.R_reads' HO_6.out).2.2 x12_2 p266 q266
               cases e266
               replace p266 := eq_true p266
               replace q266 := eq_true q266
               have p267 : 0 ≤ (x12_2 : Int) := of_decide_eq_true (by first | (with_reducible assumption) | assumption)
               have q267 : x12_2 < (t234.length : Int) := of_decide_eq_true (by first | (with_reducible assumption) | assumption)
               obtain ⟨ad267, e267, hx267_0, hx267_1, hx267_2, hx267_3, hx267_4, hx267_5, hx267_6⟩ := at_T46 (Kd.R_reads' HO_0.out).2.2 x12_2 p267 q267
               cases e267
               replace p267 := eq_true p267
               replace q267 := eq_true q267
               refine start_ (n := 9) (S := fun w' => w'.cell? (ad266.add ((x12_2).toNat * 7)) = some (.int .i64 ((rd_T46 t240 x12_2).f0)) ∧ w'.cell? ⟨(ad266.add ((x12_2).toNat * 7)).block, (ad266.add ((x12_2).toNat * 7)).off + 1, none⟩ = some (.int .i64 ((rd_T46 t240 x12_2).f1)) ∧ w'.cell? ⟨(ad266.add ((x12_2).toNat * 7)).block, (ad266.add ((x12_2).toNat * 7)).off + 2, none⟩ = some (.int .i64 ((rd_T46 t240 x12_2).f2)) ∧ w'.cell? ⟨(ad266.add ((x12_2).toNat * 7)).block, (ad266.add ((x12_2).toNat * 7)).off + 3, none⟩ = some (.int .u64 ((rd_T46 t240 x12_2).f3)) ∧ w'.cell? ⟨(ad266.add ((x12_2).toNat * 7)).block, (ad266.add ((x12_2).toNat * 7)).off + 4, none⟩ = some (.int .i64 ((rd_T46 t240 x12_2).f4)) ∧ w'.cell? ⟨(ad266.add ((x12_2).toNat * 7)).block, (ad266.add ((x12_2).toNat * 7)).off + 5, none⟩ = some (.bool ((rd_T46 t240 x12_2).f5)) ∧ w'.cell? ⟨(ad266.add ((x12_2).toNat * 7)).block, (ad266.add ((x12_2).toNat * 7)).off + 6, none⟩ = some (.int .i64 ((rd_T46 t240 x12_2).f6)) ∧ w'.cell? (ad267.add ((x12_2).toNat * 7)) = some (.int .i64 ((rd_T46 t234 x12_2).f0)) ∧ w'.cell? ⟨(ad267.add ((x12_2).toNat * 7)).block, (ad267.add ((x12_2).toNat * 7)).off + 1, none⟩ = some (.int .i64 ((rd_T46 t234 x12_2).f1)) ∧ w'.cell? ⟨(ad267.add ((x12_2).toNat * 7)).block, (ad267.add ((x12_2).toNat * 7)).off + 2, none⟩ = some (.int .i64 ((rd_T46 t234 x12_2).f2)) ∧ w'.cell? ⟨(ad267.add ((x12_2).toNat * 7)).block, (ad267.add ((x12_2).toNat * 7)).off + 3, none⟩ = some (.int .u64 ((rd_T46 t234 x12_2).f3)) ∧ w'.cell? ⟨(ad267.add ((x12_2).toNat * 7)).block, (ad267.add ((x12_2).toNat * 7)).off + 4, none⟩ = some (.int .i64 ((rd_T46 t234 x12_2).f4)) ∧ w'.cell? ⟨(ad267.add ((x12_2).toNat * 7)).block, (ad267.add ((x12_2).toNat * 7)).off + 5, none⟩ = some (.bool ((rd_T46 t234 x12_2).f5)) ∧ w'.cell? ⟨(ad267.add ((x12_2).toNat * 7)).block, (ad267.add ((x12_2).toNat * 7)).off + 6, none⟩ = some (.int .i64 ((rd_T46 t234 x12_2).f6))) (ds := []) #[false, false, false, false, false, false, false, false, false] (by kernel_rfl) rfl rfl ⟨hx266_0, hx266_1, hx266_2, hx266_3, hx266_4, hx266_5, hx266_6, hx267_0, hx267_1, hx267_2, hx267_3, hx267_4, hx267_5, hx267_6⟩ (fun hHeld => ?_); refine with_tabW berthinglaw32_TraceBack.tab13 berthinglaw32_TraceBack.bits13 (fun HT_ HW_ => ?_)
               generalize wr.drew = w37 at HO_0 HO_6 HB hx266_0 hx266_1 hx266_2 hx266_3 hx266_4 hx266_5 hx266_6 hx267_0 hx267_1 hx267_2 hx267_3 hx267_4 hx267_5 hx267_6 hHeld ⊢
               refine pure_ (i := 0) (N := some 68) (v := ?_) (a' := ?_) #[true, false, false, false, false, false, false, false, false] rfl rfl (any_of HT_.out (by kernel_rfl)) (fun _ _ _ h => h) (Or.inl ⟨by rfl, ?_⟩) ?_ ?_
               rotate_left
               ·intro w'
                go_simp
                with_reducible rfl
               rotate_left
               ·simp only [Act.put, List.setIfInBounds_toArray, List.set_cons_zero, List.set_cons_succ, i64_w, i32_w]
                rfl
               refine pure_ (i := 1) (N := some 69) (v := ?_) (a' := ?_) #[true, true, false, false, false, false, false, false, false] rfl rfl (any_of HT_.out (by kernel_rfl)) (fun _ _ _ h => h) (Or.inl ⟨by rfl, ?_⟩) ?_ ?_
               rotate_left
               ·intro w'
                go_simp
                with_reducible rfl
               rotate_left
               ·simp only [Act.put, List.setIfInBounds_toArray, List.set_cons_zero, List.set_cons_succ, i64_w, i32_w]
                rfl
               refine pure_ (i := 2) (N := some 70) (v := ?_) (a' := ?_) #[true, true, true, false, false, false, false, false, false] rfl rfl (any_of HT_.out (by kernel_rfl)) (fun _ _ _ h => h) (Or.inl ⟨by rfl, ?_⟩) ?_ ?_
               rotate_left
               ·intro w'
                go_simp
                with_reducible rfl
               rotate_left
               ·simp only [Act.put, List.setIfInBounds_toArray, List.set_cons_zero, List.set_cons_succ, i64_w, i32_w]
                rfl
               refine pure_ (i := 4) (N := some 72) (v := ?_) (a' := ?_) #[true, true, true, false, true, false, false, false, false] rfl rfl (any_of HT_.out (by kernel_rfl)) (fun _ _ _ h => h) (Or.inl ⟨by rfl, ?_⟩) ?_ ?_
               rotate_left
               ·intro w'
                go_simp
                with_reducible rfl
               rotate_left
               ·simp only [Act.put, List.setIfInBounds_toArray, List.set_cons_zero, List.set_cons_succ, i64_w, i32_w]
                rfl
               refine pure_ (i := 5) (N := some 73) (v := ?_) (a' := ?_) #[true, true, true, false, true, true, false, false, false] rfl rfl (any_of HT_.out (by kernel_rfl)) (fun _ _ _ h => h) (Or.inl ⟨by rfl, ?_⟩) ?_ ?_
               rotate_left
               ·intro w'
                go_simp
                with_reducible rfl
               rotate_left
               ·simp only [Act.put, List.setIfInBounds_toArray, List.set_cons_zero, List.set_cons_succ, i64_w, i32_w]
                rfl
               refine pure_ (i := 6) (N := some 74) (v := ?_) (a' := ?_) #[true, true, true, false, true, true, true, false, false] rfl rfl (any_of HT_.out (by kernel_rfl)) (fun _ _ _ h => h) (Or.inl ⟨by rfl, ?_⟩) ?_ ?_
               rotate_left
               ·intro w'
                go_simp
                with_reducible rfl
               rotate_left
               ·simp only [Act.put, List.setIfInBounds_toArray, List.set_cons_zero, List.set_cons_succ, i64_w, i32_w]
                rfl
               refine take_ (i := 3) (N := some 71) (v := ?_) (a' := ?_) #[true, true, true, true, true, true, true, false, false] rfl rfl (take_ofW HT_.out HW_.out (by kernel_rfl)) (fun _ _ _ h => h) (Or.inl ⟨by rfl, ?_⟩) hHeld ?_ ?_
               rotate_left
               ·rintro w' ⟨s0, s1, s2, s3, s4, s5, s6, s7, s8, s9, s10, s11, s12, s13⟩
                go_simp
                with_reducible rfl
               rotate_left
               ·simp only [Act.put, List.setIfInBounds_toArray, List.set_cons_zero, List.set_cons_succ, i64_w, i32_w]
                rfl
               refine take_ (i := 7) (N := some 75) (v := ?_) (a' := ?_) #[true, true, true, true, true, true, true, true, false] rfl rfl (take_ofW HT_.out HW_.out (by kernel_rfl)) (fun _ _ _ h => h) (Or.inl ⟨by rfl, ?_⟩) hHeld ?_ ?_
               rotate_left
               ·rintro w' ⟨s0, s1, s2, s3, s4, s5, s6, s7, s8, s9, s10, s11, s12, s13⟩
                go_simp
                with_reducible rfl
               rotate_left
               ·simp only [Act.put, List.setIfInBounds_toArray, List.set_cons_zero, List.set_cons_succ, i64_w, i32_w]
                rfl
               refine pure_ (i := 8) (N := some 76) (v := ?_) (a' := ?_) #[true, true, true, true, true, true, true, true, true] rfl rfl (any_of HT_.out (by kernel_rfl)) (fun _ _ _ h => h) (Or.inl ⟨by rfl, ?_⟩) ?_ ?_
               rotate_left
               ·intro w'
                go_simp
                with_reducible rfl
               rotate_left
               ·simp only [Act.put, List.setIfInBounds_toArray, List.set_cons_zero, List.set_cons_succ, i64_w, i32_w]
                rfl
               refine done_ (done_of HT_.out (by kernel_rfl)) ?_
               try go_wp2
               go_roundg k2
               case measure => have := HJ13.out; have := HK2.out; omega
               case rel => exact ⟨(wrap64 (x12_2 + 1)), (by first | rfl | (simp; done) | (simp [*]; done)), H', ⟨by have := HJ13.out; have := HK2.out; omega⟩, ⟨by (with_reducible repeat (first | apply Kd.R_alloc | apply Kd.R_drewN | apply Kd.R_drew)); exact HO_0.out⟩, ⟨by (with_reducible repeat (first | apply Kd.R_alloc | apply Kd.R_drewN | apply Kd.R_drew)); exact HO_6.out⟩, ⟨by repeat (first | (with_reducible first | exact HB.out | apply below_alloc | apply pw_below_drewN | apply below_drew1) | exact HB.out)⟩⟩
             ·rw [if_neg c35] at H
              exact absurd H (by simp)
            ·rw [if_neg c34] at H
             exact absurd H (by simp)
           ·rw [if_neg c33] at H
            have c33b0 : decide (x12_2 < (t234.length : Int)) = false := decide_eq_false c33
            clear c33
            by_cases c39 : (t234.length : Int) < 2
            ·rw [if_pos c39] at H
             have c39b0 : decide ((t234.length : Int) < 2) = true := decide_eq_true c39
             have c39b1 : decide (t234.length < 2) = true := decide_eq_true (by omega)
             clear c39
             replace H := Option.bind_eq_some_iff.mp H
             obtain ⟨t268, A400, H⟩ := H
             replace H : (some t268) = some r := H
             have A40 := Aside0.mk A400
             clear A400
             obtain rfl := Option.some.inj H
             go_wp2_with (first | ((with_reducible refine gate_callee (f := 12) rfl ?_); refine goesL_ (some 80) rfl rfl Tryd.func12 (by kernel_rfl) rfl #[] rfl (by (try simp only [List.map_toArray, List.map_cons, List.map_nil]); first | done | rfl | (simp only [List.length_drop, List.length_take]; rfl)) ?_; (with_reducible refine (berthinglaw32_one.calls k2  t268 _ (Cur.ErrT.go (by repeat (first | (with_reducible first | exact HB.out | apply below_alloc | apply pw_below_drewN | apply below_drew1) | exact HB.out)) hT) A40.out).mono ?_); rintro e w41 ⟨rfl, hb⟩; refine ⟨_, rfl, ?_⟩; have n0_ := Aside0.mk (Kd.R_below (by (with_reducible repeat (first | apply Kd.R_alloc | apply Kd.R_drewN | apply Kd.R_drew)); exact HO_0.out) hb); have n1_ := Aside0.mk (Kd.R_below (by (with_reducible repeat (first | apply Kd.R_alloc | apply Kd.R_drewN | apply Kd.R_drew)); exact HO_6.out) hb); have n2_ := Aside0.mk (below_step (by repeat (first | (with_reducible first | exact HB.out | apply below_alloc | apply pw_below_drewN | apply below_drew1) | exact HB.out)) hb); clear HO_0; clear HO_6; clear HB; have HO_0 := n0_; have HO_6 := n1_; have HB := n2_; clear n0_ n1_ n2_; (try clear hb); (try clear hb2); (try clear hk); (try clear hi)))
             go_ret
             exact ⟨by first | rfl | (simp [errW_none, errW_some] <;> rfl) | (simp only [← hji7]; first | rfl | (simp [errW_none, errW_some] <;> rfl)) | (simp [*, errW_none, errW_some] <;> rfl), by repeat (first | (with_reducible first | exact HB.out | apply below_alloc | apply pw_below_drewN | apply below_drew1) | exact HB.out)⟩
            ·rw [if_neg c39] at H
             have c39b0 : decide ((t234.length : Int) < 2) = false := decide_eq_false c39
             have c39b1 : decide (t234.length < 2) = false := decide_eq_false (by omega)
             clear c39
             by_cases c42 : (wrap64 ((t234.length : Int) - 1)) = 0
             ·rw [if_pos c42] at H
              exact absurd H (by simp)
             ·rw [if_neg c42] at H
              have c42b0 : ((wrap64 ((t234.length : Int) - 1)) == 0) = false := beq_eq_false_iff_ne.mpr c42
              have c42b1 : ((wrap64 ((t234.length : Int) - 1)) != 0) = true := bne_iff_ne.mpr c42
              obtain ⟨y269, hy269⟩ : ∃ y_ : List (S46), y_ = (([] : List (S46))) := ⟨_, rfl⟩
              replace H : (if y269.length + t234.length < 2513169434916 then ((some (y269 ++ t234 : List (S46))).bind fun y272 => (if 0 ≤ (wrap64 ((Int.tmod (wrap64 ((wrap64 ((Int.tmod a1 (wrap64 ((t234.length : Int) - 1))) + (t234.length : Int))) - 1)) (wrap64 ((t234.length : Int) - 1))) + 1)) then (if (wrap64 ((Int.tmod (wrap64 ((wrap64 ((Int.tmod a1 (wrap64 ((t234.length : Int) - 1))) + (t234.length : Int))) - 1)) (wrap64 ((t234.length : Int) - 1))) + 1)) < (t234.length : Int) then (if 0 ≤ (Int.tmod (wrap64 ((wrap64 ((Int.tmod a1 (wrap64 ((t234.length : Int) - 1))) + (t234.length : Int))) - 1)) (wrap64 ((t234.length : Int) - 1))) then (if (Int.tmod (wrap64 ((wrap64 ((Int.tmod a1 (wrap64 ((t234.length : Int) - 1))) + (t234.length : Int))) - 1)) (wrap64 ((t234.length : Int) - 1))) < (t234.length : Int) then (if (Int.tmod (wrap64 ((wrap64 ((Int.tmod a1 (wrap64 ((t234.length : Int) - 1))) + (t234.length : Int))) - 1)) (wrap64 ((t234.length : Int) - 1))) < (y272.length : Int) then (if (wrap64 ((Int.tmod (wrap64 ((wrap64 ((Int.tmod a1 (wrap64 ((t234.length : Int) - 1))) + (t234.length : Int))) - 1)) (wrap64 ((t234.length : Int) - 1))) + 1)) < (y272.length : Int) then ((trace_Put.f k2 ((y272.set ((Int.tmod (wrap64 ((wrap64 ((Int.tmod a1 (wrap64 ((t234.length : Int) - 1))) + (t234.length : Int))) - 1)) (wrap64 ((t234.length : Int) - 1))) : Int).toNat (⟨(rd_T46 t234 (wrap64 ((Int.tmod (wrap64 ((wrap64 ((Int.tmod a1 (wrap64 ((t234.length : Int) - 1))) + (t234.length : Int))) - 1)) (wrap64 ((t234.length : Int) - 1))) + 1))).f0, (rd_T46 t234 (wrap64 ((Int.tmod (wrap64 ((wrap64 ((Int.tmod a1 (wrap64 ((t234.length : Int) - 1))) + (t234.length : Int))) - 1)) (wrap64 ((t234.length : Int) - 1))) + 1))).f1, (rd_T46 t234 (wrap64 ((Int.tmod (wrap64 ((wrap64 ((Int.tmod a1 (wrap64 ((t234.length : Int) - 1))) + (t234.length : Int))) - 1)) (wrap64 ((t234.length : Int) - 1))) + 1))).f2, (rd_T46 t234 (wrap64 ((Int.tmod (wrap64 ((wrap64 ((Int.tmod a1 (wrap64 ((t234.length : Int) - 1))) + (t234.length : Int))) - 1)) (wrap64 ((t234.length : Int) - 1))) + 1))).f3, (rd_T46 t234 (wrap64 ((Int.tmod (wrap64 ((wrap64 ((Int.tmod a1 (wrap64 ((t234.length : Int) - 1))) + (t234.length : Int))) - 1)) (wrap64 ((t234.length : Int) - 1))) + 1))).f4, (rd_T46 t234 (wrap64 ((Int.tmod (wrap64 ((wrap64 ((Int.tmod a1 (wrap64 ((t234.length : Int) - 1))) + (t234.length : Int))) - 1)) (wrap64 ((t234.length : Int) - 1))) + 1))).f5, (rd_T46 t234 (wrap64 ((Int.tmod (wrap64 ((wrap64 ((Int.tmod a1 (wrap64 ((t234.length : Int) - 1))) + (t234.length : Int))) - 1)) (wrap64 ((t234.length : Int) - 1))) + 1))).f6⟩ : S46)).set ((wrap64 ((Int.tmod (wrap64 ((wrap64 ((Int.tmod a1 (wrap64 ((t234.length : Int) - 1))) + (t234.length : Int))) - 1)) (wrap64 ((t234.length : Int) - 1))) + 1)) : Int).toNat (⟨(rd_T46 t234 (Int.tmod (wrap64 ((wrap64 ((Int.tmod a1 (wrap64 ((t234.length : Int) - 1))) + (t234.length : Int))) - 1)) (wrap64 ((t234.length : Int) - 1)))).f0, (rd_T46 t234 (Int.tmod (wrap64 ((wrap64 ((Int.tmod a1 (wrap64 ((t234.length : Int) - 1))) + (t234.length : Int))) - 1)) (wrap64 ((t234.length : Int) - 1)))).f1, (rd_T46 t234 (Int.tmod (wrap64 ((wrap64 ((Int.tmod a1 (wrap64 ((t234.length : Int) - 1))) + (t234.length : Int))) - 1)) (wrap64 ((t234.length : Int) - 1)))).f2, (rd_T46 t234 (Int.tmod (wrap64 ((wrap64 ((Int.tmod a1 (wrap64 ((t234.length : Int) - 1))) + (t234.length : Int))) - 1)) (wrap64 ((t234.length : Int) - 1)))).f3, (rd_T46 t234 (Int.tmod (wrap64 ((wrap64 ((Int.tmod a1 (wrap64 ((t234.length : Int) - 1))) + (t234.length : Int))) - 1)) (wrap64 ((t234.length : Int) - 1)))).f4, (rd_T46 t234 (Int.tmod (wrap64 ((wrap64 ((Int.tmod a1 (wrap64 ((t234.length : Int) - 1))) + (t234.length : Int))) - 1)) (wrap64 ((t234.length : Int) - 1)))).f5, (rd_T46 t234 (Int.tmod (wrap64 ((wrap64 ((Int.tmod a1 (wrap64 ((t234.length : Int) - 1))) + (t234.length : Int))) - 1)) (wrap64 ((t234.length : Int) - 1)))).f6⟩ : S46))).bind fun t279 => (if ((decide ((t279.length : Int) > 0)) == (((rd_T46 t234 (Int.tmod (wrap64 ((wrap64 ((Int.tmod a1 (wrap64 ((t234.length : Int) - 1))) + (t234.length : Int))) - 1)) (wrap64 ((t234.length : Int) - 1)))).f4) == ((rd_T46 t234 (wrap64 ((Int.tmod (wrap64 ((wrap64 ((Int.tmod a1 (wrap64 ((t234.length : Int) - 1))) + (t234.length : Int))) - 1)) (wrap64 ((t234.length : Int) - 1))) + 1))).f4))) = true then ((berthinglaw32_one.f k2).bind fun t284 => (some t284)) else (none))) else (none)) else (none)) else (none)) else (none)) else (none)) else (none))) else (none)) = some r := by first | (rw [hy269]; with_reducible exact H) | (have H2_ := (Option.bind_some _ _).symm.trans H; rw [hy269]; with_reducible exact H2_) | (have H2_ := (Option.bind_some _ _).symm.trans H; with_reducible exact H2_) | with_reducible exact H | (rw [hy269]; exact H) | exact H
              have Ny269 := Aside0.mk hy269
              clear hy269
              by_cases c43 : y269.length + t234.length < 2513169434916
              ·rw [if_pos c43] at H
               have LMc43 := Aside0.mk c43
               clear c43
               obtain ⟨y272, hy272⟩ : ∃ y_ : List (S46), y_ = (y269 ++ t234) := ⟨_, rfl⟩
               replace H : (if 0 ≤ (wrap64 ((Int.tmod (wrap64 ((wrap64 ((Int.tmod a1 (wrap64 ((t234.length : Int) - 1))) + (t234.length : Int))) - 1)) (wrap64 ((t234.length : Int) - 1))) + 1)) then (if (wrap64 ((Int.tmod (wrap64 ((wrap64 ((Int.tmod a1 (wrap64 ((t234.length : Int) - 1))) + (t234.length : Int))) - 1)) (wrap64 ((t234.length : Int) - 1))) + 1)) < (t234.length : Int) then (if 0 ≤ (Int.tmod (wrap64 ((wrap64 ((Int.tmod a1 (wrap64 ((t234.length : Int) - 1))) + (t234.length : Int))) - 1)) (wrap64 ((t234.length : Int) - 1))) then (if (Int.tmod (wrap64 ((wrap64 ((Int.tmod a1 (wrap64 ((t234.length : Int) - 1))) + (t234.length : Int))) - 1)) (wrap64 ((t234.length : Int) - 1))) < (t234.length : Int) then (if (Int.tmod (wrap64 ((wrap64 ((Int.tmod a1 (wrap64 ((t234.length : Int) - 1))) + (t234.length : Int))) - 1)) (wrap64 ((t234.length : Int) - 1))) < (y272.length : Int) then (if (wrap64 ((Int.tmod (wrap64 ((wrap64 ((Int.tmod a1 (wrap64 ((t234.length : Int) - 1))) + (t234.length : Int))) - 1)) (wrap64 ((t234.length : Int) - 1))) + 1)) < (y272.length : Int) then ((trace_Put.f k2 ((y272.set ((Int.tmod (wrap64 ((wrap64 ((Int.tmod a1 (wrap64 ((t234.length : Int) - 1))) + (t234.length : Int))) - 1)) (wrap64 ((t234.length : Int) - 1))) : Int).toNat (⟨(rd_T46 t234 (wrap64 ((Int.tmod (wrap64 ((wrap64 ((Int.tmod a1 (wrap64 ((t234.length : Int) - 1))) + (t234.length : Int))) - 1)) (wrap64 ((t234.length : Int) - 1))) + 1))).f0, (rd_T46 t234 (wrap64 ((Int.tmod (wrap64 ((wrap64 ((Int.tmod a1 (wrap64 ((t234.length : Int) - 1))) + (t234.length : Int))) - 1)) (wrap64 ((t234.length : Int) - 1))) + 1))).f1, (rd_T46 t234 (wrap64 ((Int.tmod (wrap64 ((wrap64 ((Int.tmod a1 (wrap64 ((t234.length : Int) - 1))) + (t234.length : Int))) - 1)) (wrap64 ((t234.length : Int) - 1))) + 1))).f2, (rd_T46 t234 (wrap64 ((Int.tmod (wrap64 ((wrap64 ((Int.tmod a1 (wrap64 ((t234.length : Int) - 1))) + (t234.length : Int))) - 1)) (wrap64 ((t234.length : Int) - 1))) + 1))).f3, (rd_T46 t234 (wrap64 ((Int.tmod (wrap64 ((wrap64 ((Int.tmod a1 (wrap64 ((t234.length : Int) - 1))) + (t234.length : Int))) - 1)) (wrap64 ((t234.length : Int) - 1))) + 1))).f4, (rd_T46 t234 (wrap64 ((Int.tmod (wrap64 ((wrap64 ((Int.tmod a1 (wrap64 ((t234.length : Int) - 1))) + (t234.length : Int))) - 1)) (wrap64 ((t234.length : Int) - 1))) + 1))).f5, (rd_T46 t234 (wrap64 ((Int.tmod (wrap64 ((wrap64 ((Int.tmod a1 (wrap64 ((t234.length : Int) - 1))) + (t234.length : Int))) - 1)) (wrap64 ((t234.length : Int) - 1))) + 1))).f6⟩ : S46)).set ((wrap64 ((Int.tmod (wrap64 ((wrap64 ((Int.tmod a1 (wrap64 ((t234.length : Int) - 1))) + (t234.length : Int))) - 1)) (wrap64 ((t234.length : Int) - 1))) + 1)) : Int).toNat (⟨(rd_T46 t234 (Int.tmod (wrap64 ((wrap64 ((Int.tmod a1 (wrap64 ((t234.length : Int) - 1))) + (t234.length : Int))) - 1)) (wrap64 ((t234.length : Int) - 1)))).f0, (rd_T46 t234 (Int.tmod (wrap64 ((wrap64 ((Int.tmod a1 (wrap64 ((t234.length : Int) - 1))) + (t234.length : Int))) - 1)) (wrap64 ((t234.length : Int) - 1)))).f1, (rd_T46 t234 (Int.tmod (wrap64 ((wrap64 ((Int.tmod a1 (wrap64 ((t234.length : Int) - 1))) + (t234.length : Int))) - 1)) (wrap64 ((t234.length : Int) - 1)))).f2, (rd_T46 t234 (Int.tmod (wrap64 ((wrap64 ((Int.tmod a1 (wrap64 ((t234.length : Int) - 1))) + (t234.length : Int))) - 1)) (wrap64 ((t234.length : Int) - 1)))).f3, (rd_T46 t234 (Int.tmod (wrap64 ((wrap64 ((Int.tmod a1 (wrap64 ((t234.length : Int) - 1))) + (t234.length : Int))) - 1)) (wrap64 ((t234.length : Int) - 1)))).f4, (rd_T46 t234 (Int.tmod (wrap64 ((wrap64 ((Int.tmod a1 (wrap64 ((t234.length : Int) - 1))) + (t234.length : Int))) - 1)) (wrap64 ((t234.length : Int) - 1)))).f5, (rd_T46 t234 (Int.tmod (wrap64 ((wrap64 ((Int.tmod a1 (wrap64 ((t234.length : Int) - 1))) + (t234.length : Int))) - 1)) (wrap64 ((t234.length : Int) - 1)))).f6⟩ : S46))).bind fun t279 => (if ((decide ((t279.length : Int) > 0)) == (((rd_T46 t234 (Int.tmod (wrap64 ((wrap64 ((Int.tmod a1 (wrap64 ((t234.length : Int) - 1))) + (t234.length : Int))) - 1)) (wrap64 ((t234.length : Int) - 1)))).f4) == ((rd_T46 t234 (wrap64 ((Int.tmod (wrap64 ((wrap64 ((Int.tmod a1 (wrap64 ((t234.length : Int) - 1))) + (t234.length : Int))) - 1)) (wrap64 ((t234.length : Int) - 1))) + 1))).f4))) = true then ((berthinglaw32_one.f k2).bind fun t284 => (some t284)) else (none))) else (none)) else (none)) else (none)) else (none)) else (none)) else (none)) = some r := by first | (rw [hy272]; with_reducible exact H) | (have H2_ := (Option.bind_some _ _).symm.trans H; rw [hy272]; with_reducible exact H2_) | (have H2_ := (Option.bind_some _ _).symm.trans H; with_reducible exact H2_) | with_reducible exact H | (rw [hy272]; exact H) | exact H
               have Ny272 := Aside0.mk hy272
               clear hy272
               obtain ⟨ji44, hji44⟩ : ∃ j_ : Int, (wrap64 ((Int.tmod (wrap64 ((wrap64 ((Int.tmod a1 (wrap64 ((t234.length : Int) - 1))) + (t234.length : Int))) - 1)) (wrap64 ((t234.length : Int) - 1))) + 1)) = j_ := ⟨_, rfl⟩
               replace H : (if 0 ≤ (ji44) then (if (ji44) < (t234.length : Int) then (if 0 ≤ (Int.tmod (wrap64 ((wrap64 ((Int.tmod a1 (wrap64 ((t234.length : Int) - 1))) + (t234.length : Int))) - 1)) (wrap64 ((t234.length : Int) - 1))) then (if (Int.tmod (wrap64 ((wrap64 ((Int.tmod a1 (wrap64 ((t234.length : Int) - 1))) + (t234.length : Int))) - 1)) (wrap64 ((t234.length : Int) - 1))) < (t234.length : Int) then (if (Int.tmod (wrap64 ((wrap64 ((Int.tmod a1 (wrap64 ((t234.length : Int) - 1))) + (t234.length : Int))) - 1)) (wrap64 ((t234.length : Int) - 1))) < (y272.length : Int) then (if (ji44) < (y272.length : Int) then ((trace_Put.f k2 ((y272.set ((Int.tmod (wrap64 ((wrap64 ((Int.tmod a1 (wrap64 ((t234.length : Int) - 1))) + (t234.length : Int))) - 1)) (wrap64 ((t234.length : Int) - 1))) : Int).toNat (⟨(rd_T46 t234 (ji44)).f0, (rd_T46 t234 (ji44)).f1, (rd_T46 t234 (ji44)).f2, (rd_T46 t234 (ji44)).f3, (rd_T46 t234 (ji44)).f4, (rd_T46 t234 (ji44)).f5, (rd_T46 t234 (ji44)).f6⟩ : S46)).set ((ji44) : Int).toNat (⟨(rd_T46 t234 (Int.tmod (wrap64 ((wrap64 ((Int.tmod a1 (wrap64 ((t234.length : Int) - 1))) + (t234.length : Int))) - 1)) (wrap64 ((t234.length : Int) - 1)))).f0, (rd_T46 t234 (Int.tmod (wrap64 ((wrap64 ((Int.tmod a1 (wrap64 ((t234.length : Int) - 1))) + (t234.length : Int))) - 1)) (wrap64 ((t234.length : Int) - 1)))).f1, (rd_T46 t234 (Int.tmod (wrap64 ((wrap64 ((Int.tmod a1 (wrap64 ((t234.length : Int) - 1))) + (t234.length : Int))) - 1)) (wrap64 ((t234.length : Int) - 1)))).f2, (rd_T46 t234 (Int.tmod (wrap64 ((wrap64 ((Int.tmod a1 (wrap64 ((t234.length : Int) - 1))) + (t234.length : Int))) - 1)) (wrap64 ((t234.length : Int) - 1)))).f3, (rd_T46 t234 (Int.tmod (wrap64 ((wrap64 ((Int.tmod a1 (wrap64 ((t234.length : Int) - 1))) + (t234.length : Int))) - 1)) (wrap64 ((t234.length : Int) - 1)))).f4, (rd_T46 t234 (Int.tmod (wrap64 ((wrap64 ((Int.tmod a1 (wrap64 ((t234.length : Int) - 1))) + (t234.length : Int))) - 1)) (wrap64 ((t234.length : Int) - 1)))).f5, (rd_T46 t234 (Int.tmod (wrap64 ((wrap64 ((Int.tmod a1 (wrap64 ((t234.length : Int) - 1))) + (t234.length : Int))) - 1)) (wrap64 ((t234.length : Int) - 1)))).f6⟩ : S46))).bind fun t279 => (if ((decide ((t279.length : Int) > 0)) == (((rd_T46 t234 (Int.tmod (wrap64 ((wrap64 ((Int.tmod a1 (wrap64 ((t234.length : Int) - 1))) + (t234.length : Int))) - 1)) (wrap64 ((t234.length : Int) - 1)))).f4) == ((rd_T46 t234 (ji44)).f4))) = true then ((berthinglaw32_one.f k2).bind fun t284 => (some t284)) else (none))) else (none)) else (none)) else (none)) else (none)) else (none)) else (none)) = some r := by first | (rw [hji44] at H; exact H) | (simp only [hji44] at H ⊢; exact H)
               have hji44w : (IntKind.i64.wrap ((Int.tmod (wrap64 ((wrap64 ((Int.tmod a1 (wrap64 ((t234.length : Int) - 1))) + (t234.length : Int))) - 1)) (wrap64 ((t234.length : Int) - 1))) + 1)) = ji44 := (i64_w _).trans hji44
               by_cases c45 : 0 ≤ (ji44)
               ·rw [if_pos c45] at H
                have c45b0 : decide (0 ≤ (ji44)) = true := decide_eq_true c45
                clear c45
                by_cases c46 : (ji44) < (t234.length : Int)
                ·rw [if_pos c46] at H
                 have c46b0 : decide ((ji44) < (t234.length : Int)) = true := decide_eq_true c46
                 clear c46
                 obtain ⟨ji47, hji47⟩ : ∃ j_ : Int, (Int.tmod (wrap64 ((wrap64 ((Int.tmod a1 (wrap64 ((t234.length : Int) - 1))) + (t234.length : Int))) - 1)) (wrap64 ((t234.length : Int) - 1))) = j_ := ⟨_, rfl⟩
                 have hji44b_ : wrap64 (ji47 + 1) = ji44 := by rw [← hji47]; exact hji44
                 have hji44c_ : IntKind.i64.wrap (ji47 + 1) = ji44 := (i64_w _).trans hji44b_
                 replace H : (if 0 ≤ (ji47) then (if (ji47) < (t234.length : Int) then (if (ji47) < (y272.length : Int) then (if (ji44) < (y272.length : Int) then ((trace_Put.f k2 ((y272.set ((ji47) : Int).toNat (⟨(rd_T46 t234 (ji44)).f0, (rd_T46 t234 (ji44)).f1, (rd_T46 t234 (ji44)).f2, (rd_T46 t234 (ji44)).f3, (rd_T46 t234 (ji44)).f4, (rd_T46 t234 (ji44)).f5, (rd_T46 t234 (ji44)).f6⟩ : S46)).set ((ji44) : Int).toNat (⟨(rd_T46 t234 (ji47)).f0, (rd_T46 t234 (ji47)).f1, (rd_T46 t234 (ji47)).f2, (rd_T46 t234 (ji47)).f3, (rd_T46 t234 (ji47)).f4, (rd_T46 t234 (ji47)).f5, (rd_T46 t234 (ji47)).f6⟩ : S46))).bind fun t279 => (if ((decide ((t279.length : Int) > 0)) == (((rd_T46 t234 (ji47)).f4) == ((rd_T46 t234 (ji44)).f4))) = true then ((berthinglaw32_one.f k2).bind fun t284 => (some t284)) else (none))) else (none)) else (none)) else (none)) else (none)) = some r := by first | (rw [hji47] at H; exact H) | (simp only [hji47] at H ⊢; exact H)
                 by_cases c48 : 0 ≤ (ji47)
                 ·rw [if_pos c48] at H
                  have c48b0 : decide (0 ≤ (ji47)) = true := decide_eq_true c48
                  clear c48
                  by_cases c49 : (ji47) < (t234.length : Int)
                  ·rw [if_pos c49] at H
                   have c49b0 : decide ((ji47) < (t234.length : Int)) = true := decide_eq_true c49
                   clear c49
                   by_cases c50 : (ji47) < (y272.length : Int)
                   ·rw [if_pos c50] at H
                    have c50b0 : decide ((ji47) < (y272.length : Int)) = true := decide_eq_true c50
                    clear c50
                    obtain ⟨y277, hy277⟩ : ∃ y_ : List (S46), y_ = (y272.set ((ji47) : Int).toNat (⟨(rd_T46 t234 (ji44)).f0, (rd_T46 t234 (ji44)).f1, (rd_T46 t234 (ji44)).f2, (rd_T46 t234 (ji44)).f3, (rd_T46 t234 (ji44)).f4, (rd_T46 t234 (ji44)).f5, (rd_T46 t234 (ji44)).f6⟩ : S46)) := ⟨_, rfl⟩
                    replace H : (if (ji44) < (y272.length : Int) then ((trace_Put.f k2 (y277.set ((ji44) : Int).toNat (⟨(rd_T46 t234 (ji47)).f0, (rd_T46 t234 (ji47)).f1, (rd_T46 t234 (ji47)).f2, (rd_T46 t234 (ji47)).f3, (rd_T46 t234 (ji47)).f4, (rd_T46 t234 (ji47)).f5, (rd_T46 t234 (ji47)).f6⟩ : S46))).bind fun t279 => (if ((decide ((t279.length : Int) > 0)) == (((rd_T46 t234 (ji47)).f4) == ((rd_T46 t234 (ji44)).f4))) = true then ((berthinglaw32_one.f k2).bind fun t284 => (some t284)) else (none))) else (none)) = some r := by first | (rw [hy277]; with_reducible exact H) | (have H2_ := (Option.bind_some _ _).symm.trans H; rw [hy277]; with_reducible exact H2_) | (have H2_ := (Option.bind_some _ _).symm.trans H; with_reducible exact H2_) | with_reducible exact H | (rw [hy277]; exact H) | exact H
                    have Ny277 := Aside0.mk hy277
                    clear hy277
                    by_cases c52 : (ji44) < (y272.length : Int)
                    ·rw [if_pos c52] at H
                     have c52b0 : decide ((ji44) < (y272.length : Int)) = true := decide_eq_true c52
                     clear c52
                     obtain ⟨y278, hy278⟩ : ∃ y_ : List (S46), y_ = (y277.set ((ji44) : Int).toNat (⟨(rd_T46 t234 (ji47)).f0, (rd_T46 t234 (ji47)).f1, (rd_T46 t234 (ji47)).f2, (rd_T46 t234 (ji47)).f3, (rd_T46 t234 (ji47)).f4, (rd_T46 t234 (ji47)).f5, (rd_T46 t234 (ji47)).f6⟩ : S46)) := ⟨_, rfl⟩
                     replace H : ((trace_Put.f k2 y278).bind fun t279 => (if ((decide ((t279.length : Int) > 0)) == (((rd_T46 t234 (ji47)).f4) == ((rd_T46 t234 (ji44)).f4))) = true then ((berthinglaw32_one.f k2).bind fun t284 => (some t284)) else (none))) = some r := by first | (rw [hy278]; with_reducible exact H) | (have H2_ := (Option.bind_some _ _).symm.trans H; rw [hy278]; with_reducible exact H2_) | (have H2_ := (Option.bind_some _ _).symm.trans H; with_reducible exact H2_) | with_reducible exact H | (rw [hy278]; exact H) | exact H
                     have Ny278 := Aside0.mk hy278
                     clear hy278
                     replace H := Option.bind_eq_some_iff.mp H
                     obtain ⟨t279, A540, H⟩ := H
                     replace H : (if ((decide ((t279.length : Int) > 0)) == (((rd_T46 t234 (ji47)).f4) == ((rd_T46 t234 (ji44)).f4))) = true then ((berthinglaw32_one.f k2).bind fun t284 => (some t284)) else (none)) = some r := H
                     have A54 := Aside0.mk A540
                     clear A540
                     by_cases c55 : ((decide ((t279.length : Int) > 0)) == (((rd_T46 t234 (ji47)).f4) == ((rd_T46 t234 (ji44)).f4))) = true
                     ·rw [if_pos c55] at H
                      have c55b0 : ((decide ((t279.length : Int) > 0)) == (((rd_T46 t234 (ji47)).f4) == ((rd_T46 t234 (ji44)).f4))) = true := c55
                      have c55n_ : (decide (0 < t279.length) == (((rd_T46 t234 (ji47)).f4) == ((rd_T46 t234 (ji44)).f4))) = true := by simpa using c55b0
                      (try (have c55b1 : decide ((decide ((t279.length : Int) > 0)) = (((rd_T46 t234 (ji47)).f4) == ((rd_T46 t234 (ji44)).f4))) = true := by simpa using c55))
                      (try (have c55b2 : ((decide ((t279.length : Int) > 0)) == (((rd_T46 t234 (ji47)).f4) == ((rd_T46 t234 (ji44)).f4))) = true := by simpa using c55))
                      clear c55
                      replace H := Option.bind_eq_some_iff.mp H
                      obtain ⟨t284, A560, H⟩ := H
                      replace H : (some t284) = some r := H
                      have A56 := Aside0.mk A560
                      clear A560
                      obtain rfl := Option.some.inj H
                      try go_wp2_with (first | ((with_reducible refine gate_dst (N := 94) rfl ?_); (try (refine gate_guard (by rfl) ?_; dsimp only)); refine Kd.R_lit k46 _ 46 ?hg (N := 94) ?hd (xs := ([] : List (S46))) (inner := []) (ok := fun _ => True) (okp := fun _ => True) ?hr ?hp (fun _ hk => hk) trivial (Below.refl _ _) (Nat.le_refl _) (by simp) ?_; (case hd => rfl); (case hg => rfl); (case hr => first | (go_simp; done) | (go_simp; rfl)); (case hp => exact (Reps.none _ _)); intro v270 w57 ho58 hb hg_ hnew_; clear hg_ hnew_; (first | rw [← Ny269.out] at ho58 | (simp only [Int.reduceToNat] at ho58; rw [← Ny269.out] at ho58)); have n0_ := Aside0.mk (Kd.R_elder' (by (with_reducible repeat (first | apply Kd.R_alloc | apply Kd.R_drewN | apply Kd.R_drew)); exact HO_0.out) (Kd.R_base ho58) hb); have n1_ := Aside0.mk (Kd.R_elder' (by (with_reducible repeat (first | apply Kd.R_alloc | apply Kd.R_drewN | apply Kd.R_drew)); exact HO_6.out) (Kd.R_base ho58) hb); have n2_ := Aside0.mk (Kd.R_lower (Kd.R_new' (Kd.R_new' ho58 (Kd.R_lt (by (with_reducible repeat (first | apply Kd.R_alloc | apply Kd.R_drewN | apply Kd.R_drew)); exact HO_0.out))) (Kd.R_lt (by (with_reducible repeat (first | apply Kd.R_alloc | apply Kd.R_drewN | apply Kd.R_drew)); exact HO_6.out))) (below_size (by repeat (first | (with_reducible first | exact HB.out | apply below_alloc | apply pw_below_drewN | apply below_drew1) | exact HB.out)))); have n3_ := Aside0.mk (below_step (by repeat (first | (with_reducible first | exact HB.out | apply below_alloc | apply pw_below_drewN | apply below_drew1) | exact HB.out)) hb); clear HO_0; clear HO_6; clear HB; have HO_0 := n0_; have HO_6 := n1_; have HO271 := n2_; have HB := n3_; clear n0_ n1_ n2_ n3_; clear hb ho58) | ((with_reducible refine gate_builtin (b := .append) (xs := #[.tmp 94, .tmp 95]) rfl ?_); (try (refine gate_guard (by rfl) ?_; dsimp only)); at_builtin; refine Kd.R_append_rows k46 (w0 := w) w.heap.size rfl (.tmp 94) (.tmp 95) 22 46 (.agg #[(.int .i64 0), (.int .i64 0), (.int .i64 0), (.int .u64 0), (.int .i64 0), (.bool false), (.int .i64 0)]) 56 rfl Tryd.underlying22 info46 rfl (by decide) (by omega) v270 y269 t234 _ _ _ (fun k_ => some k_ ≠ (.slice Ao16 t234.length co16 : Value).ownBlock ∧ some k_ ≠ (v242 : Value).ownBlock) (fun _ => False) rfl rfl ?aO ?aR (fun _ _ h => h) (fun _ h => h.elim) ?aF ?aB ?aS ?aL ?_; (case aR => repeat (first | exact (Kd.R_reads' HO_0.out).2.2 | (with_reducible refine Kd.C_alloc ?_ _) | (with_reducible refine Kd.C_drewN ?_ _) | (with_reducible refine Kd.C_drew ?_))); (case aB => exact (by repeat (first | (with_reducible first | exact HB.out | apply below_alloc | apply pw_below_drewN | apply below_drew1) | exact HB.out))); (case aF => exact (fun k_ hk => ⟨Kd.fresh' (Kd.R_lt (by (with_reducible repeat (first | apply Kd.R_alloc | apply Kd.R_drewN | apply Kd.R_drew)); exact HO_0.out)) k_ hk, Kd.fresh' (Kd.R_lt (by (with_reducible repeat (first | apply Kd.R_alloc | apply Kd.R_drewN | apply Kd.R_drew)); exact HO_6.out)) k_ hk⟩)); (case aO => exact (by (with_reducible repeat (first | apply Kd.R_alloc | apply Kd.R_drewN | apply Kd.R_drew)); exact Kd.R_mono HO271.out (fun _ hk => ⟨hk.1.2, hk.2⟩))); (case aS => exact (below_size (by repeat (first | (with_reducible first | exact HB.out | apply below_alloc | apply pw_below_drewN | apply below_drew1) | exact HB.out)))); (case aL => have := LMc43.out; omega); intro v273 w59 ho hb hg hat; rw [← Ny272.out] at ho; have n0_ := Aside0.mk (Kd.R_after (ok := (fun k_ => some k_ ≠ (v242 : Value).ownBlock)) (by (with_reducible repeat (first | apply Kd.R_alloc | apply Kd.R_drewN | apply Kd.R_drew)); exact HO_0.out) hg hat); have n1_ := Aside0.mk (Kd.R_after (ok := (fun k_ => some k_ ≠ (.slice Ao16 t234.length co16 : Value).ownBlock)) (by (with_reducible repeat (first | apply Kd.R_alloc | apply Kd.R_drewN | apply Kd.R_drew)); exact HO_6.out) hg hat); have n2_ := Aside0.mk (hb); have n3_ := Aside0.mk (ho); clear HO_0; clear HO_6; clear HB; clear HO271; have HO_0 := n0_; have HO_6 := n1_; have HB := n2_; have HO274 := n3_; clear n0_ n1_ n2_ n3_; clear ho hb hg hat))
                      have n0_ := Aside0.mk (Kd.R_drew HO_0.out)
                      have n1_ := Aside0.mk (Kd.R_drew HO_6.out)
                      have n2_ := Aside0.mk (Kd.R_drew HO274.out)
                      have n3_ := Aside0.mk (below_drew1 HB.out)
                      clear HO_0
                      clear HO_6
                      clear HO274
                      clear HB
                      have HO_0 := n0_
                      have HO_6 := n1_
                      have HO274 := n2_
                      have HB := n3_
                      clear n0_ n1_ n2_ n3_
                      have p275 : 0 ≤ ((ji44) : Int) := of_decide_eq_true (by first | (with_reducible assumption) | assumption)
                      have q275 : (ji44) < (t234.length : Int) := of_decide_eq_true (by first | (with_reducible assumption) | assumption)
                      obtain ⟨ad275, e275, hx275_0, hx275_1, hx275_2, hx275_3, hx275_4, hx275_5, hx275_6⟩ := at_T46 (Kd.R_reads' HO_0.out).2.2 (ji44) p275 q275
                      cases e275
                      replace p275 := eq_true p275
                      replace q275 := eq_true q275
                      have p276 : 0 ≤ ((ji47) : Int) := of_decide_eq_true (by first | (with_reducible assumption) | assumption)
                      have q276 : (ji47) < (t234.length : Int) := of_decide_eq_true (by first | (with_reducible assumption) | assumption)
                      obtain ⟨ad276, e276, hx276_0, hx276_1, hx276_2, hx276_3, hx276_4, hx276_5, hx276_6⟩ := at_T46 (Kd.R_reads' HO_0.out).2.2 (ji47) p276 q276
                      obtain rfl : ad275 = ad276 := (by injection e276)
                      replace p276 := eq_true p276
                      replace q276 := eq_true q276
                      have p51 : 0 ≤ ((ji47) : Int) := of_decide_eq_true (by first | (with_reducible assumption) | assumption)
                      have q51 : ((ji47) : Int) < ((y272.length : Int) : Int) := of_decide_eq_true (by first | (with_reducible assumption) | assumption)
                      obtain ⟨go51, co51, eo51, gb51, gl51, cl51, HG51⟩ := Kd.R_form HO274.out (by omega)
                      (first | cases eo51 | (injection eo51 with ea_ en_ ec_; (first | subst ea_ | (injection ea_ with ea_; subst ea_)); subst ec_; clear en_))
                      have GB51 := Aside0.mk gb51
                      have GG51 := Aside0.mk HG51
                      clear gb51 gl51 HG51
                      obtain ⟨ce51, hcl51, hM51, hcc51, hfr51⟩ := Kd.R_elem HO274.out z46 ((ji47) : Int) p51 q51
                      obtain rfl := k46_openM hM51
                      have hx51_0 : World.cell? _ ⟨go51, ((ji47) : Int).toNat * 7, none⟩ = some (.int .i64 ((rd_T46 y272 (ji47)).f0)) := hcc51 0 _ rfl
                      have hx51_1 : World.cell? _ ⟨go51, ((ji47) : Int).toNat * 7 + 1, none⟩ = some (.int .i64 ((rd_T46 y272 (ji47)).f1)) := hcc51 1 _ rfl
                      have hx51_2 : World.cell? _ ⟨go51, ((ji47) : Int).toNat * 7 + 2, none⟩ = some (.int .i64 ((rd_T46 y272 (ji47)).f2)) := hcc51 2 _ rfl
                      have hx51_3 : World.cell? _ ⟨go51, ((ji47) : Int).toNat * 7 + 3, none⟩ = some (.int .u64 ((rd_T46 y272 (ji47)).f3)) := hcc51 3 _ rfl
                      have hx51_4 : World.cell? _ ⟨go51, ((ji47) : Int).toNat * 7 + 4, none⟩ = some (.int .i64 ((rd_T46 y272 (ji47)).f4)) := hcc51 4 _ rfl
                      have hx51_5 : World.cell? _ ⟨go51, ((ji47) : Int).toNat * 7 + 5, none⟩ = some (.bool ((rd_T46 y272 (ji47)).f5)) := hcc51 5 _ rfl
                      have hx51_6 : World.cell? _ ⟨go51, ((ji47) : Int).toNat * 7 + 6, none⟩ = some (.int .i64 ((rd_T46 y272 (ji47)).f6)) := hcc51 6 _ rfl
                      have hf51_0 : World.frozen? _ ⟨go51, ((ji47) : Int).toNat * 7, none⟩ = false := hfr51 0
                      have hf51_1 : World.frozen? _ ⟨go51, ((ji47) : Int).toNat * 7 + 1, none⟩ = false := hfr51 1
                      have hf51_2 : World.frozen? _ ⟨go51, ((ji47) : Int).toNat * 7 + 2, none⟩ = false := hfr51 2
                      have hf51_3 : World.frozen? _ ⟨go51, ((ji47) : Int).toNat * 7 + 3, none⟩ = false := hfr51 3
                      have hf51_4 : World.frozen? _ ⟨go51, ((ji47) : Int).toNat * 7 + 4, none⟩ = false := hfr51 4
                      have hf51_5 : World.frozen? _ ⟨go51, ((ji47) : Int).toNat * 7 + 5, none⟩ = false := hfr51 5
                      have hf51_6 : World.frozen? _ ⟨go51, ((ji47) : Int).toNat * 7 + 6, none⟩ = false := hfr51 6
                      clear hcl51 hcc51 hfr51 hM51
                      replace p51 := eq_true p51
                      replace q51 := eq_true q51
                      obtain ⟨ce99, hcl99, hM99, hcc99, hfr99⟩ := Kd.R_elem HO274.out z46 ((ji44) : Int) (of_decide_eq_true (by first | (with_reducible assumption) | assumption)) (by have h_ : ((ji44) : Int) < ((y272.length : Int) : Int) := of_decide_eq_true (by first | (with_reducible assumption) | assumption); first | exact h_ | (have e_ := (Kd.R_reads' HO274.out).1; omega) | simpa using h_)
                      obtain rfl := k46_openM hM99
                      have hx99_0 : World.cell? _ ⟨go51, ((ji44) : Int).toNat * 7, none⟩ = some (.int .i64 ((rd_T46 y272 (ji44)).f0)) := hcc99 0 _ rfl
                      have hf99_0 : World.frozen? _ ⟨go51, ((ji44) : Int).toNat * 7, none⟩ = false := hfr99 0
                      have hx99_1 : World.cell? _ ⟨go51, ((ji44) : Int).toNat * 7 + 1, none⟩ = some (.int .i64 ((rd_T46 y272 (ji44)).f1)) := hcc99 1 _ rfl
                      have hf99_1 : World.frozen? _ ⟨go51, ((ji44) : Int).toNat * 7 + 1, none⟩ = false := hfr99 1
                      have hx99_2 : World.cell? _ ⟨go51, ((ji44) : Int).toNat * 7 + 2, none⟩ = some (.int .i64 ((rd_T46 y272 (ji44)).f2)) := hcc99 2 _ rfl
                      have hf99_2 : World.frozen? _ ⟨go51, ((ji44) : Int).toNat * 7 + 2, none⟩ = false := hfr99 2
                      have hx99_3 : World.cell? _ ⟨go51, ((ji44) : Int).toNat * 7 + 3, none⟩ = some (.int .u64 ((rd_T46 y272 (ji44)).f3)) := hcc99 3 _ rfl
                      have hf99_3 : World.frozen? _ ⟨go51, ((ji44) : Int).toNat * 7 + 3, none⟩ = false := hfr99 3
                      have hx99_4 : World.cell? _ ⟨go51, ((ji44) : Int).toNat * 7 + 4, none⟩ = some (.int .i64 ((rd_T46 y272 (ji44)).f4)) := hcc99 4 _ rfl
                      have hf99_4 : World.frozen? _ ⟨go51, ((ji44) : Int).toNat * 7 + 4, none⟩ = false := hfr99 4
                      have hx99_5 : World.cell? _ ⟨go51, ((ji44) : Int).toNat * 7 + 5, none⟩ = some (.bool ((rd_T46 y272 (ji44)).f5)) := hcc99 5 _ rfl
                      have hf99_5 : World.frozen? _ ⟨go51, ((ji44) : Int).toNat * 7 + 5, none⟩ = false := hfr99 5
                      have hx99_6 : World.cell? _ ⟨go51, ((ji44) : Int).toNat * 7 + 6, none⟩ = some (.int .i64 ((rd_T46 y272 (ji44)).f6)) := hcc99 6 _ rfl
                      have hf99_6 : World.frozen? _ ⟨go51, ((ji44) : Int).toNat * 7 + 6, none⟩ = false := hfr99 6
                      clear hcl99 hcc99 hfr99 hM99
                      obtain ⟨ce61, hcl61, hM61, hcc61, hfr61⟩ := Kd.R_elem HO274.out z46 ((ji47) : Int) (of_decide_eq_true (by first | (with_reducible assumption) | assumption)) (by have h_ : ((ji47) : Int) < ((y272.length : Int) : Int) := of_decide_eq_true (by first | (with_reducible assumption) | assumption); first | exact h_ | (have e_ := (Kd.R_reads' HO274.out).1; omega) | simpa using h_)
                      obtain rfl := k46_openM hM61
                      have HP61 := (Kd.R_seg HO274.out ((ji47) : Int) (of_decide_eq_true (by first | (with_reducible assumption) | assumption)) (by have h_ : ((ji47) : Int) < ((y272.length : Int) : Int) := of_decide_eq_true (by first | (with_reducible assumption) | assumption); first | exact h_ | (have e_ := (Kd.R_reads' HO274.out).1; omega) | simpa using h_) (seg := [.int .i64 ((rd_T46 t234 (ji44)).f0), .int .i64 ((rd_T46 t234 (ji44)).f1), .int .i64 ((rd_T46 t234 (ji44)).f2), .int .u64 ((rd_T46 t234 (ji44)).f3), .int .i64 ((rd_T46 t234 (ji44)).f4), .bool ((rd_T46 t234 (ji44)).f5), .int .i64 ((rd_T46 t234 (ji44)).f6)]) (j := 0) hcl61 hcc61 (show 7 ≤ 7 from by decide) (x' := (⟨(rd_T46 t234 (ji44)).f0, (rd_T46 t234 (ji44)).f1, (rd_T46 t234 (ji44)).f2, (rd_T46 t234 (ji44)).f3, (rd_T46 t234 (ji44)).f4, (rd_T46 t234 (ji44)).f5, (rd_T46 t234 (ji44)).f6⟩ : S46)) (k46_mkM _ _ _ (⟨(rd_T46 t234 (ji44)).f0, (rd_T46 t234 (ji44)).f1, (rd_T46 t234 (ji44)).f2, (rd_T46 t234 (ji44)).f3, (rd_T46 t234 (ji44)).f4, (rd_T46 t234 (ji44)).f5, (rd_T46 t234 (ji44)).f6⟩ : S46) ) (fun _ hk => hk)).1
                      rw [← Ny277.out] at HP61
                      have HQ61 := Aside0.mk HP61
                      clear hcl61 hcc61 hfr61 hM61 HP61
                      have p53 : 0 ≤ ((ji44) : Int) := of_decide_eq_true (by first | (with_reducible assumption) | assumption)
                      have q53 : ((ji44) : Int) < ((y272.length : Int) : Int) := of_decide_eq_true (by first | (with_reducible assumption) | assumption)
                      obtain ⟨ce53, hcl53, hM53, hcc53, hfr53⟩ := Kd.R_elem HQ61.out z46 ((ji44) : Int) p53 q53
                      obtain rfl := k46_openM hM53
                      have hx53_0 : World.cell? _ ⟨go51, ((ji44) : Int).toNat * 7, none⟩ = some (.int .i64 ((rd_T46 y277 (ji44)).f0)) := hcc53 0 _ rfl
                      have hx53_1 : World.cell? _ ⟨go51, ((ji44) : Int).toNat * 7 + 1, none⟩ = some (.int .i64 ((rd_T46 y277 (ji44)).f1)) := hcc53 1 _ rfl
                      have hx53_2 : World.cell? _ ⟨go51, ((ji44) : Int).toNat * 7 + 2, none⟩ = some (.int .i64 ((rd_T46 y277 (ji44)).f2)) := hcc53 2 _ rfl
                      have hx53_3 : World.cell? _ ⟨go51, ((ji44) : Int).toNat * 7 + 3, none⟩ = some (.int .u64 ((rd_T46 y277 (ji44)).f3)) := hcc53 3 _ rfl
                      have hx53_4 : World.cell? _ ⟨go51, ((ji44) : Int).toNat * 7 + 4, none⟩ = some (.int .i64 ((rd_T46 y277 (ji44)).f4)) := hcc53 4 _ rfl
                      have hx53_5 : World.cell? _ ⟨go51, ((ji44) : Int).toNat * 7 + 5, none⟩ = some (.bool ((rd_T46 y277 (ji44)).f5)) := hcc53 5 _ rfl
                      have hx53_6 : World.cell? _ ⟨go51, ((ji44) : Int).toNat * 7 + 6, none⟩ = some (.int .i64 ((rd_T46 y277 (ji44)).f6)) := hcc53 6 _ rfl
                      have hf53_0 : World.frozen? _ ⟨go51, ((ji44) : Int).toNat * 7, none⟩ = false := hfr53 0
                      have hf53_1 : World.frozen? _ ⟨go51, ((ji44) : Int).toNat * 7 + 1, none⟩ = false := hfr53 1
                      have hf53_2 : World.frozen? _ ⟨go51, ((ji44) : Int).toNat * 7 + 2, none⟩ = false := hfr53 2
                      have hf53_3 : World.frozen? _ ⟨go51, ((ji44) : Int).toNat * 7 + 3, none⟩ = false := hfr53 3
                      have hf53_4 : World.frozen? _ ⟨go51, ((ji44) : Int).toNat * 7 + 4, none⟩ = false := hfr53 4
                      have hf53_5 : World.frozen? _ ⟨go51, ((ji44) : Int).toNat * 7 + 5, none⟩ = false := hfr53 5
                      have hf53_6 : World.frozen? _ ⟨go51, ((ji44) : Int).toNat * 7 + 6, none⟩ = false := hfr53 6
                      clear hcl53 hcc53 hfr53 hM53
                      replace p53 := eq_true p53
                      replace q53 := eq_true q53
                      obtain ⟨ce62, hcl62, hM62, hcc62, hfr62⟩ := Kd.R_elem HQ61.out z46 ((ji44) : Int) (of_decide_eq_true (by first | (with_reducible assumption) | assumption)) (by have h_ : ((ji44) : Int) < ((y272.length : Int) : Int) := of_decide_eq_true (by first | (with_reducible assumption) | assumption); first | exact h_ | (have e_ := (Kd.R_reads' HO274.out).1; omega) | simpa using h_)
                      obtain rfl := k46_openM hM62
                      have HP62 := (Kd.R_seg HQ61.out ((ji44) : Int) (of_decide_eq_true (by first | (with_reducible assumption) | assumption)) (by have h_ : ((ji44) : Int) < ((y272.length : Int) : Int) := of_decide_eq_true (by first | (with_reducible assumption) | assumption); first | exact h_ | (have e_ := (Kd.R_reads' HO274.out).1; omega) | simpa using h_) (seg := [.int .i64 ((rd_T46 t234 (ji47)).f0), .int .i64 ((rd_T46 t234 (ji47)).f1), .int .i64 ((rd_T46 t234 (ji47)).f2), .int .u64 ((rd_T46 t234 (ji47)).f3), .int .i64 ((rd_T46 t234 (ji47)).f4), .bool ((rd_T46 t234 (ji47)).f5), .int .i64 ((rd_T46 t234 (ji47)).f6)]) (j := 0) hcl62 hcc62 (show 7 ≤ 7 from by decide) (x' := (⟨(rd_T46 t234 (ji47)).f0, (rd_T46 t234 (ji47)).f1, (rd_T46 t234 (ji47)).f2, (rd_T46 t234 (ji47)).f3, (rd_T46 t234 (ji47)).f4, (rd_T46 t234 (ji47)).f5, (rd_T46 t234 (ji47)).f6⟩ : S46)) (k46_mkM _ _ _ (⟨(rd_T46 t234 (ji47)).f0, (rd_T46 t234 (ji47)).f1, (rd_T46 t234 (ji47)).f2, (rd_T46 t234 (ji47)).f3, (rd_T46 t234 (ji47)).f4, (rd_T46 t234 (ji47)).f5, (rd_T46 t234 (ji47)).f6⟩ : S46) ) (fun _ hk => hk)).1
                      rw [← Ny278.out] at HP62
                      have HQ62 := Aside0.mk HP62
                      clear hcl62 hcc62 hfr62 hM62 HP62
                      refine start_ (n := 18) (S := fun w' => w'.cell? (ad275.add (((ji44)).toNat * 7)) = some (.int .i64 ((rd_T46 t234 (ji44)).f0)) ∧ w'.cell? ⟨(ad275.add (((ji44)).toNat * 7)).block, (ad275.add (((ji44)).toNat * 7)).off + 1, none⟩ = some (.int .i64 ((rd_T46 t234 (ji44)).f1)) ∧ w'.cell? ⟨(ad275.add (((ji44)).toNat * 7)).block, (ad275.add (((ji44)).toNat * 7)).off + 2, none⟩ = some (.int .i64 ((rd_T46 t234 (ji44)).f2)) ∧ w'.cell? ⟨(ad275.add (((ji44)).toNat * 7)).block, (ad275.add (((ji44)).toNat * 7)).off + 3, none⟩ = some (.int .u64 ((rd_T46 t234 (ji44)).f3)) ∧ w'.cell? ⟨(ad275.add (((ji44)).toNat * 7)).block, (ad275.add (((ji44)).toNat * 7)).off + 4, none⟩ = some (.int .i64 ((rd_T46 t234 (ji44)).f4)) ∧ w'.cell? ⟨(ad275.add (((ji44)).toNat * 7)).block, (ad275.add (((ji44)).toNat * 7)).off + 5, none⟩ = some (.bool ((rd_T46 t234 (ji44)).f5)) ∧ w'.cell? ⟨(ad275.add (((ji44)).toNat * 7)).block, (ad275.add (((ji44)).toNat * 7)).off + 6, none⟩ = some (.int .i64 ((rd_T46 t234 (ji44)).f6)) ∧ w'.cell? (ad275.add (((ji47)).toNat * 7)) = some (.int .i64 ((rd_T46 t234 (ji47)).f0)) ∧ w'.cell? ⟨(ad275.add (((ji47)).toNat * 7)).block, (ad275.add (((ji47)).toNat * 7)).off + 1, none⟩ = some (.int .i64 ((rd_T46 t234 (ji47)).f1)) ∧ w'.cell? ⟨(ad275.add (((ji47)).toNat * 7)).block, (ad275.add (((ji47)).toNat * 7)).off + 2, none⟩ = some (.int .i64 ((rd_T46 t234 (ji47)).f2)) ∧ w'.cell? ⟨(ad275.add (((ji47)).toNat * 7)).block, (ad275.add (((ji47)).toNat * 7)).off + 3, none⟩ = some (.int .u64 ((rd_T46 t234 (ji47)).f3)) ∧ w'.cell? ⟨(ad275.add (((ji47)).toNat * 7)).block, (ad275.add (((ji47)).toNat * 7)).off + 4, none⟩ = some (.int .i64 ((rd_T46 t234 (ji47)).f4)) ∧ w'.cell? ⟨(ad275.add (((ji47)).toNat * 7)).block, (ad275.add (((ji47)).toNat * 7)).off + 5, none⟩ = some (.bool ((rd_T46 t234 (ji47)).f5)) ∧ w'.cell? ⟨(ad275.add (((ji47)).toNat * 7)).block, (ad275.add (((ji47)).toNat * 7)).off + 6, none⟩ = some (.int .i64 ((rd_T46 t234 (ji47)).f6))) (ds := [15, 17]) #[false, false, false, false, false, false, false, false, false, false, false, false, false, false, false, false, false, false] (by kernel_rfl) rfl rfl ⟨hx275_0, hx275_1, hx275_2, hx275_3, hx275_4, hx275_5, hx275_6, hx276_0, hx276_1, hx276_2, hx276_3, hx276_4, hx276_5, hx276_6⟩ (fun hHeld => ?_); refine with_tabW berthinglaw32_TraceBack.tab19 berthinglaw32_TraceBack.bits19 (fun HT_ HW_ => ?_)
                      generalize w59.drew = w60 at HO_0 HO_6 HO274 HB GG51 HQ61 HQ62 hx99_0 hf99_0 hx99_1 hf99_1 hx99_2 hf99_2 hx99_3 hf99_3 hx99_4 hf99_4 hx99_5 hf99_5 hx99_6 hf99_6 hf51_0 hf51_1 hf51_2 hf51_3 hf51_4 hf51_5 hf51_6 hf53_0 hf53_1 hf53_2 hf53_3 hf53_4 hf53_5 hf53_6 hx275_0 hx275_1 hx275_2 hx275_3 hx275_4 hx275_5 hx275_6 hx276_0 hx276_1 hx276_2 hx276_3 hx276_4 hx276_5 hx276_6 hx51_0 hx51_1 hx51_2 hx51_3 hx51_4 hx51_5 hx51_6 hx53_0 hx53_1 hx53_2 hx53_3 hx53_4 hx53_5 hx53_6 hHeld ⊢
                      refine pure_ (i := 0) (N := some 97) (v := ?_) (a' := ?_) #[true, false, false, false, false, false, false, false, false, false, false, false, false, false, false, false, false, false] rfl rfl (any_of HT_.out (by kernel_rfl)) (fun _ _ _ h => h) (Or.inl ⟨by rfl, ?_⟩) ?_ ?_
                      rotate_left
                      ·intro w'
                       go_simp
                       with_reducible rfl
                      rotate_left
                      ·simp only [Act.put, List.setIfInBounds_toArray, List.set_cons_zero, List.set_cons_succ, i64_w, i32_w]
                       rfl
                      refine pure_ (i := 1) (N := some 98) (v := ?_) (a' := ?_) #[true, true, false, false, false, false, false, false, false, false, false, false, false, false, false, false, false, false] rfl rfl (any_of HT_.out (by kernel_rfl)) (fun _ _ _ h => h) (Or.inl ⟨by rfl, ?_⟩) ?_ ?_
                      rotate_left
                      ·intro w'
                       go_simp
                       with_reducible rfl
                      rotate_left
                      ·simp only [Act.put, List.setIfInBounds_toArray, List.set_cons_zero, List.set_cons_succ, i64_w, i32_w]
                       rfl
                      refine pure_ (i := 2) (N := some 99) (v := ?_) (a' := ?_) #[true, true, true, false, false, false, false, false, false, false, false, false, false, false, false, false, false, false] rfl rfl (any_of HT_.out (by kernel_rfl)) (fun _ _ _ h => h) (Or.inl ⟨by rfl, ?_⟩) ?_ ?_
                      rotate_left
                      ·intro w'
                       go_simp
                       with_reducible rfl
                      rotate_left
                      ·simp only [Act.put, List.setIfInBounds_toArray, List.set_cons_zero, List.set_cons_succ, i64_w, i32_w]
                       rfl
                      refine pure_ (i := 3) (N := some 100) (v := ?_) (a' := ?_) #[true, true, true, true, false, false, false, false, false, false, false, false, false, false, false, false, false, false] rfl rfl (any_of HT_.out (by kernel_rfl)) (fun _ _ _ h => h) (Or.inl ⟨by rfl, ?_⟩) ?_ ?_
                      rotate_left
                      ·intro w'
                       go_simp
                       with_reducible rfl
                      rotate_left
                      ·simp only [Act.put, List.setIfInBounds_toArray, List.set_cons_zero, List.set_cons_succ, i64_w, i32_w]
                       rfl
                      refine pure_ (i := 4) (N := some 101) (v := ?_) (a' := ?_) #[true, true, true, true, true, false, false, false, false, false, false, false, false, false, false, false, false, false] rfl rfl (any_of HT_.out (by kernel_rfl)) (fun _ _ _ h => h) (Or.inl ⟨by rfl, ?_⟩) ?_ ?_
                      rotate_left
                      ·intro w'
                       go_simp
                       with_reducible rfl
                      rotate_left
                      ·simp only [Act.put, List.setIfInBounds_toArray, List.set_cons_zero, List.set_cons_succ, i64_w, i32_w]
                       rfl
                      refine pure_ (i := 5) (N := some 102) (v := ?_) (a' := ?_) #[true, true, true, true, true, true, false, false, false, false, false, false, false, false, false, false, false, false] rfl rfl (any_of HT_.out (by kernel_rfl)) (fun _ _ _ h => h) (Or.inl ⟨by rfl, ?_⟩) ?_ ?_
                      rotate_left
                      ·intro w'
                       go_simp
                       with_reducible rfl
                      rotate_left
                      ·simp only [Act.put, List.setIfInBounds_toArray, List.set_cons_zero, List.set_cons_succ, i64_w, i32_w]
                       rfl
                      refine pure_ (i := 6) (N := some 103) (v := ?_) (a' := ?_) #[true, true, true, true, true, true, true, false, false, false, false, false, false, false, false, false, false, false] rfl rfl (any_of HT_.out (by kernel_rfl)) (fun _ _ _ h => h) (Or.inl ⟨by rfl, ?_⟩) ?_ ?_
                      rotate_left
                      ·intro w'
                       go_simp
                       with_reducible rfl
                      rotate_left
                      ·simp only [Act.put, List.setIfInBounds_toArray, List.set_cons_zero, List.set_cons_succ, i64_w, i32_w]
                       rfl
                      refine pure_ (i := 7) (N := some 104) (v := ?_) (a' := ?_) #[true, true, true, true, true, true, true, true, false, false, false, false, false, false, false, false, false, false] rfl rfl (any_of HT_.out (by kernel_rfl)) (fun _ _ _ h => h) (Or.inl ⟨by rfl, ?_⟩) ?_ ?_
                      rotate_left
                      ·intro w'
                       go_simp
                       with_reducible rfl
                      rotate_left
                      ·simp only [Act.put, List.setIfInBounds_toArray, List.set_cons_zero, List.set_cons_succ, i64_w, i32_w]
                       rfl
                      refine pure_ (i := 8) (N := some 105) (v := ?_) (a' := ?_) #[true, true, true, true, true, true, true, true, true, false, false, false, false, false, false, false, false, false] rfl rfl (any_of HT_.out (by kernel_rfl)) (fun _ _ _ h => h) (Or.inl ⟨by rfl, ?_⟩) ?_ ?_
                      rotate_left
                      ·intro w'
                       go_simp
                       with_reducible rfl
                      rotate_left
                      ·simp only [Act.put, List.setIfInBounds_toArray, List.set_cons_zero, List.set_cons_succ, i64_w, i32_w]
                       rfl
                      refine pure_ (i := 10) (N := some 107) (v := ?_) (a' := ?_) #[true, true, true, true, true, true, true, true, true, false, true, false, false, false, false, false, false, false] rfl rfl (any_of HT_.out (by kernel_rfl)) (fun _ _ _ h => h) (Or.inl ⟨by rfl, ?_⟩) ?_ ?_
                      rotate_left
                      ·intro w'
                       go_simp
                       with_reducible rfl
                      rotate_left
                      ·simp only [Act.put, List.setIfInBounds_toArray, List.set_cons_zero, List.set_cons_succ, i64_w, i32_w]
                       rfl
                      refine pure_ (i := 11) (N := some 108) (v := ?_) (a' := ?_) #[true, true, true, true, true, true, true, true, true, false, true, true, false, false, false, false, false, false] rfl rfl (any_of HT_.out (by kernel_rfl)) (fun _ _ _ h => h) (Or.inl ⟨by rfl, ?_⟩) ?_ ?_
                      rotate_left
                      ·intro w'
                       go_simp
                       with_reducible rfl
                      rotate_left
                      ·simp only [Act.put, List.setIfInBounds_toArray, List.set_cons_zero, List.set_cons_succ, i64_w, i32_w]
                       rfl
                      refine pure_ (i := 12) (N := some 109) (v := ?_) (a' := ?_) #[true, true, true, true, true, true, true, true, true, false, true, true, true, false, false, false, false, false] rfl rfl (any_of HT_.out (by kernel_rfl)) (fun _ _ _ h => h) (Or.inl ⟨by rfl, ?_⟩) ?_ ?_
                      rotate_left
                      ·intro w'
                       go_simp
                       with_reducible rfl
                      rotate_left
                      ·simp only [Act.put, List.setIfInBounds_toArray, List.set_cons_zero, List.set_cons_succ, i64_w, i32_w]
                       rfl
                      refine take_ (i := 9) (N := some 106) (v := ?_) (a' := ?_) #[true, true, true, true, true, true, true, true, true, true, true, true, true, false, false, false, false, false] rfl rfl (take_ofW HT_.out HW_.out (by kernel_rfl)) (fun _ _ _ h => h) (Or.inl ⟨by rfl, ?_⟩) hHeld ?_ ?_
                      rotate_left
                      ·rintro w' ⟨s0, s1, s2, s3, s4, s5, s6, s7, s8, s9, s10, s11, s12, s13⟩
                       go_simp
                       with_reducible rfl
                      rotate_left
                      ·simp only [Act.put, List.setIfInBounds_toArray, List.set_cons_zero, List.set_cons_succ, i64_w, i32_w]
                       rfl
                      refine take_ (i := 13) (N := some 110) (v := ?_) (a' := ?_) #[true, true, true, true, true, true, true, true, true, true, true, true, true, true, false, false, false, false] rfl rfl (take_ofW HT_.out HW_.out (by kernel_rfl)) (fun _ _ _ h => h) (Or.inl ⟨by rfl, ?_⟩) hHeld ?_ ?_
                      rotate_left
                      ·rintro w' ⟨s0, s1, s2, s3, s4, s5, s6, s7, s8, s9, s10, s11, s12, s13⟩
                       go_simp
                       with_reducible rfl
                      rotate_left
                      ·simp only [Act.put, List.setIfInBounds_toArray, List.set_cons_zero, List.set_cons_succ, i64_w, i32_w]
                       rfl
                      refine pure_ (i := 14) (N := some 111) (v := ?_) (a' := ?_) #[true, true, true, true, true, true, true, true, true, true, true, true, true, true, true, false, false, false] rfl rfl (any_of HT_.out (by kernel_rfl)) (fun _ _ _ h => h) (Or.inl ⟨by rfl, ?_⟩) ?_ ?_
                      rotate_left
                      ·intro w'
                       go_simp
                       with_reducible rfl
                      rotate_left
                      ·simp only [Act.put, List.setIfInBounds_toArray, List.set_cons_zero, List.set_cons_succ, i64_w, i32_w]
                       rfl
                      refine last_ (i := 15) (N := none) #[true, true, true, true, true, true, true, true, true, true, true, true, true, true, true, true, false, false] rfl rfl (one_of HT_.out (by kernel_rfl)) (by decide) (fun K hK => ?_)
                      refine skip_ (w1 := (((((((w60.setCell ⟨go51, ((ji47) : Int).toNat * 7, none⟩ (.int .i64 ((rd_T46 t234 (ji44)).f0))).setCell ⟨go51, ((ji47) : Int).toNat * 7 + 1, none⟩ (.int .i64 ((rd_T46 t234 (ji44)).f1))).setCell ⟨go51, ((ji47) : Int).toNat * 7 + 2, none⟩ (.int .i64 ((rd_T46 t234 (ji44)).f2))).setCell ⟨go51, ((ji47) : Int).toNat * 7 + 3, none⟩ (.int .u64 ((rd_T46 t234 (ji44)).f3))).setCell ⟨go51, ((ji47) : Int).toNat * 7 + 4, none⟩ (.int .i64 ((rd_T46 t234 (ji44)).f4))).setCell ⟨go51, ((ji47) : Int).toNat * 7 + 5, none⟩ (.bool ((rd_T46 t234 (ji44)).f5))).setCell ⟨go51, ((ji47) : Int).toNat * 7 + 6, none⟩ (.int .i64 ((rd_T46 t234 (ji44)).f6)))) (by rfl) rfl ?_ ?_
                      skip
                      ·go_simp
                       try rfl
                      refine hK.out _ _ ?_
                      clear hK K
                      refine pure_ (i := 16) (N := some 112) (v := ?_) (a' := ?_) #[true, true, true, true, true, true, true, true, true, true, true, true, true, true, true, true, true, false] rfl rfl (any_of HT_.out (by kernel_rfl)) (fun _ _ _ h => h) (Or.inl ⟨by rfl, ?_⟩) ?_ ?_
                      rotate_left
                      ·intro w'
                       go_simp
                       with_reducible rfl
                      rotate_left
                      ·simp only [Act.put, List.setIfInBounds_toArray, List.set_cons_zero, List.set_cons_succ, i64_w, i32_w]
                       rfl
                      obtain ⟨u99_0_0, hu99_0⟩ := cell?_setCell_some (p := ⟨go51, ((ji47) : Int).toNat * 7, none⟩) (x := (.int .i64 ((rd_T46 t234 (ji44)).f0))) hx99_0
                      obtain ⟨u99_1_0, hv99_1_0⟩ := cell?_setCell_some (p := ⟨go51, ((ji47) : Int).toNat * 7, none⟩) (x := (.int .i64 ((rd_T46 t234 (ji44)).f0))) hx99_1
                      obtain ⟨u99_1_1, hu99_1⟩ := cell?_setCell_some (p := ⟨go51, ((ji47) : Int).toNat * 7 + 1, none⟩) (x := (.int .i64 ((rd_T46 t234 (ji44)).f1))) hv99_1_0
                      clear hv99_1_0
                      obtain ⟨u99_2_0, hv99_2_0⟩ := cell?_setCell_some (p := ⟨go51, ((ji47) : Int).toNat * 7, none⟩) (x := (.int .i64 ((rd_T46 t234 (ji44)).f0))) hx99_2
                      obtain ⟨u99_2_1, hv99_2_1⟩ := cell?_setCell_some (p := ⟨go51, ((ji47) : Int).toNat * 7 + 1, none⟩) (x := (.int .i64 ((rd_T46 t234 (ji44)).f1))) hv99_2_0
                      obtain ⟨u99_2_2, hu99_2⟩ := cell?_setCell_some (p := ⟨go51, ((ji47) : Int).toNat * 7 + 2, none⟩) (x := (.int .i64 ((rd_T46 t234 (ji44)).f2))) hv99_2_1
                      clear hv99_2_0 hv99_2_1
                      obtain ⟨u99_3_0, hv99_3_0⟩ := cell?_setCell_some (p := ⟨go51, ((ji47) : Int).toNat * 7, none⟩) (x := (.int .i64 ((rd_T46 t234 (ji44)).f0))) hx99_3
                      obtain ⟨u99_3_1, hv99_3_1⟩ := cell?_setCell_some (p := ⟨go51, ((ji47) : Int).toNat * 7 + 1, none⟩) (x := (.int .i64 ((rd_T46 t234 (ji44)).f1))) hv99_3_0
                      obtain ⟨u99_3_2, hv99_3_2⟩ := cell?_setCell_some (p := ⟨go51, ((ji47) : Int).toNat * 7 + 2, none⟩) (x := (.int .i64 ((rd_T46 t234 (ji44)).f2))) hv99_3_1
                      obtain ⟨u99_3_3, hu99_3⟩ := cell?_setCell_some (p := ⟨go51, ((ji47) : Int).toNat * 7 + 3, none⟩) (x := (.int .u64 ((rd_T46 t234 (ji44)).f3))) hv99_3_2
                      clear hv99_3_0 hv99_3_1 hv99_3_2
                      obtain ⟨u99_4_0, hv99_4_0⟩ := cell?_setCell_some (p := ⟨go51, ((ji47) : Int).toNat * 7, none⟩) (x := (.int .i64 ((rd_T46 t234 (ji44)).f0))) hx99_4
                      obtain ⟨u99_4_1, hv99_4_1⟩ := cell?_setCell_some (p := ⟨go51, ((ji47) : Int).toNat * 7 + 1, none⟩) (x := (.int .i64 ((rd_T46 t234 (ji44)).f1))) hv99_4_0
                      obtain ⟨u99_4_2, hv99_4_2⟩ := cell?_setCell_some (p := ⟨go51, ((ji47) : Int).toNat * 7 + 2, none⟩) (x := (.int .i64 ((rd_T46 t234 (ji44)).f2))) hv99_4_1
                      obtain ⟨u99_4_3, hv99_4_3⟩ := cell?_setCell_some (p := ⟨go51, ((ji47) : Int).toNat * 7 + 3, none⟩) (x := (.int .u64 ((rd_T46 t234 (ji44)).f3))) hv99_4_2
                      obtain ⟨u99_4_4, hu99_4⟩ := cell?_setCell_some (p := ⟨go51, ((ji47) : Int).toNat * 7 + 4, none⟩) (x := (.int .i64 ((rd_T46 t234 (ji44)).f4))) hv99_4_3
                      clear hv99_4_0 hv99_4_1 hv99_4_2 hv99_4_3
                      obtain ⟨u99_5_0, hv99_5_0⟩ := cell?_setCell_some (p := ⟨go51, ((ji47) : Int).toNat * 7, none⟩) (x := (.int .i64 ((rd_T46 t234 (ji44)).f0))) hx99_5
                      obtain ⟨u99_5_1, hv99_5_1⟩ := cell?_setCell_some (p := ⟨go51, ((ji47) : Int).toNat * 7 + 1, none⟩) (x := (.int .i64 ((rd_T46 t234 (ji44)).f1))) hv99_5_0
                      obtain ⟨u99_5_2, hv99_5_2⟩ := cell?_setCell_some (p := ⟨go51, ((ji47) : Int).toNat * 7 + 2, none⟩) (x := (.int .i64 ((rd_T46 t234 (ji44)).f2))) hv99_5_1
                      obtain ⟨u99_5_3, hv99_5_3⟩ := cell?_setCell_some (p := ⟨go51, ((ji47) : Int).toNat * 7 + 3, none⟩) (x := (.int .u64 ((rd_T46 t234 (ji44)).f3))) hv99_5_2
                      obtain ⟨u99_5_4, hv99_5_4⟩ := cell?_setCell_some (p := ⟨go51, ((ji47) : Int).toNat * 7 + 4, none⟩) (x := (.int .i64 ((rd_T46 t234 (ji44)).f4))) hv99_5_3
                      obtain ⟨u99_5_5, hu99_5⟩ := cell?_setCell_some (p := ⟨go51, ((ji47) : Int).toNat * 7 + 5, none⟩) (x := (.bool ((rd_T46 t234 (ji44)).f5))) hv99_5_4
                      clear hv99_5_0 hv99_5_1 hv99_5_2 hv99_5_3 hv99_5_4
                      obtain ⟨u99_6_0, hv99_6_0⟩ := cell?_setCell_some (p := ⟨go51, ((ji47) : Int).toNat * 7, none⟩) (x := (.int .i64 ((rd_T46 t234 (ji44)).f0))) hx99_6
                      obtain ⟨u99_6_1, hv99_6_1⟩ := cell?_setCell_some (p := ⟨go51, ((ji47) : Int).toNat * 7 + 1, none⟩) (x := (.int .i64 ((rd_T46 t234 (ji44)).f1))) hv99_6_0
                      obtain ⟨u99_6_2, hv99_6_2⟩ := cell?_setCell_some (p := ⟨go51, ((ji47) : Int).toNat * 7 + 2, none⟩) (x := (.int .i64 ((rd_T46 t234 (ji44)).f2))) hv99_6_1
                      obtain ⟨u99_6_3, hv99_6_3⟩ := cell?_setCell_some (p := ⟨go51, ((ji47) : Int).toNat * 7 + 3, none⟩) (x := (.int .u64 ((rd_T46 t234 (ji44)).f3))) hv99_6_2
                      obtain ⟨u99_6_4, hv99_6_4⟩ := cell?_setCell_some (p := ⟨go51, ((ji47) : Int).toNat * 7 + 4, none⟩) (x := (.int .i64 ((rd_T46 t234 (ji44)).f4))) hv99_6_3
                      obtain ⟨u99_6_5, hv99_6_5⟩ := cell?_setCell_some (p := ⟨go51, ((ji47) : Int).toNat * 7 + 5, none⟩) (x := (.bool ((rd_T46 t234 (ji44)).f5))) hv99_6_4
                      obtain ⟨u99_6_6, hu99_6⟩ := cell?_setCell_some (p := ⟨go51, ((ji47) : Int).toNat * 7 + 6, none⟩) (x := (.int .i64 ((rd_T46 t234 (ji44)).f6))) hv99_6_5
                      clear hv99_6_0 hv99_6_1 hv99_6_2 hv99_6_3 hv99_6_4 hv99_6_5
                      refine last_ (i := 17) (N := none) #[true, true, true, true, true, true, true, true, true, true, true, true, true, true, true, true, true, true] rfl rfl (one_of HT_.out (by kernel_rfl)) (by decide) (fun K hK => ?_)
                      with_reducible refine skip_ (w1 := ((((((((((((((w60.setCell ⟨go51, ((ji47) : Int).toNat * 7, none⟩ (.int .i64 ((rd_T46 t234 (ji44)).f0))).setCell ⟨go51, ((ji47) : Int).toNat * 7 + 1, none⟩ (.int .i64 ((rd_T46 t234 (ji44)).f1))).setCell ⟨go51, ((ji47) : Int).toNat * 7 + 2, none⟩ (.int .i64 ((rd_T46 t234 (ji44)).f2))).setCell ⟨go51, ((ji47) : Int).toNat * 7 + 3, none⟩ (.int .u64 ((rd_T46 t234 (ji44)).f3))).setCell ⟨go51, ((ji47) : Int).toNat * 7 + 4, none⟩ (.int .i64 ((rd_T46 t234 (ji44)).f4))).setCell ⟨go51, ((ji47) : Int).toNat * 7 + 5, none⟩ (.bool ((rd_T46 t234 (ji44)).f5))).setCell ⟨go51, ((ji47) : Int).toNat * 7 + 6, none⟩ (.int .i64 ((rd_T46 t234 (ji44)).f6))).setCell ⟨go51, ((ji44) : Int).toNat * 7, none⟩ (.int .i64 ((rd_T46 t234 (ji47)).f0))).setCell ⟨go51, ((ji44) : Int).toNat * 7 + 1, none⟩ (.int .i64 ((rd_T46 t234 (ji47)).f1))).setCell ⟨go51, ((ji44) : Int).toNat * 7 + 2, none⟩ (.int .i64 ((rd_T46 t234 (ji47)).f2))).setCell ⟨go51, ((ji44) : Int).toNat * 7 + 3, none⟩ (.int .u64 ((rd_T46 t234 (ji47)).f3))).setCell ⟨go51, ((ji44) : Int).toNat * 7 + 4, none⟩ (.int .i64 ((rd_T46 t234 (ji47)).f4))).setCell ⟨go51, ((ji44) : Int).toNat * 7 + 5, none⟩ (.bool ((rd_T46 t234 (ji47)).f5))).setCell ⟨go51, ((ji44) : Int).toNat * 7 + 6, none⟩ (.int .i64 ((rd_T46 t234 (ji47)).f6)))) ?hw_ ?hN_ ?hr_ ?hK_
                      case hw_ => rfl
                      case hN_ => rfl
                      skip
                      ·go_simp
                       try rfl
                      refine hK.out _ _ ?_
                      clear hK K
                      refine done_ (done_of HT_.out (by kernel_rfl)) ?_
                      try go_wp2
                      have n0_ : Aside0 (Kd.R k46 46 ((((((((((((((w60.setCell ⟨go51, ((ji47) : Int).toNat * 7, none⟩ (.int .i64 ((rd_T46 t234 (ji44)).f0))).setCell ⟨go51, ((ji47) : Int).toNat * 7 + 1, none⟩ (.int .i64 ((rd_T46 t234 (ji44)).f1))).setCell ⟨go51, ((ji47) : Int).toNat * 7 + 2, none⟩ (.int .i64 ((rd_T46 t234 (ji44)).f2))).setCell ⟨go51, ((ji47) : Int).toNat * 7 + 3, none⟩ (.int .u64 ((rd_T46 t234 (ji44)).f3))).setCell ⟨go51, ((ji47) : Int).toNat * 7 + 4, none⟩ (.int .i64 ((rd_T46 t234 (ji44)).f4))).setCell ⟨go51, ((ji47) : Int).toNat * 7 + 5, none⟩ (.bool ((rd_T46 t234 (ji44)).f5))).setCell ⟨go51, ((ji47) : Int).toNat * 7 + 6, none⟩ (.int .i64 ((rd_T46 t234 (ji44)).f6))).setCell ⟨go51, ((ji44) : Int).toNat * 7, none⟩ (.int .i64 ((rd_T46 t234 (ji47)).f0))).setCell ⟨go51, ((ji44) : Int).toNat * 7 + 1, none⟩ (.int .i64 ((rd_T46 t234 (ji47)).f1))).setCell ⟨go51, ((ji44) : Int).toNat * 7 + 2, none⟩ (.int .i64 ((rd_T46 t234 (ji47)).f2))).setCell ⟨go51, ((ji44) : Int).toNat * 7 + 3, none⟩ (.int .u64 ((rd_T46 t234 (ji47)).f3))).setCell ⟨go51, ((ji44) : Int).toNat * 7 + 4, none⟩ (.int .i64 ((rd_T46 t234 (ji47)).f4))).setCell ⟨go51, ((ji44) : Int).toNat * 7 + 5, none⟩ (.bool ((rd_T46 t234 (ji47)).f5))).setCell ⟨go51, ((ji44) : Int).toNat * 7 + 6, none⟩ (.int .i64 ((rd_T46 t234 (ji47)).f6))) w.heap.size (fun k_ => some k_ ≠ (v242 : Value).ownBlock ∧ some k_ ≠ (.slice (some ⟨go51, 0, none⟩) y272.length co51 : Value).ownBlock) (.slice (some ad275) t234.length co16) t234) := ⟨by (with_reducible repeat (first | apply Kd.R_alloc | apply Kd.R_drewN | apply Kd.R_drew)); exact Kd.R_mono (Kd.R_far (p := ⟨go51, ((ji44) : Int).toNat * 7 + 6, none⟩) (Kd.R_far (p := ⟨go51, ((ji44) : Int).toNat * 7 + 5, none⟩) (Kd.R_far (p := ⟨go51, ((ji44) : Int).toNat * 7 + 4, none⟩) (Kd.R_far (p := ⟨go51, ((ji44) : Int).toNat * 7 + 3, none⟩) (Kd.R_far (p := ⟨go51, ((ji44) : Int).toNat * 7 + 2, none⟩) (Kd.R_far (p := ⟨go51, ((ji44) : Int).toNat * 7 + 1, none⟩) (Kd.R_far (p := ⟨go51, ((ji44) : Int).toNat * 7, none⟩) (Kd.R_far (p := ⟨go51, ((ji47) : Int).toNat * 7 + 6, none⟩) (Kd.R_far (p := ⟨go51, ((ji47) : Int).toNat * 7 + 5, none⟩) (Kd.R_far (p := ⟨go51, ((ji47) : Int).toNat * 7 + 4, none⟩) (Kd.R_far (p := ⟨go51, ((ji47) : Int).toNat * 7 + 3, none⟩) (Kd.R_far (p := ⟨go51, ((ji47) : Int).toNat * 7 + 2, none⟩) (Kd.R_far (p := ⟨go51, ((ji47) : Int).toNat * 7 + 1, none⟩) (Kd.R_far (p := ⟨go51, ((ji47) : Int).toNat * 7, none⟩) (Kd.R_mono HO_0.out (fun k_ hk => (⟨hk, fun e_ => hk.2 (by rw [e_]; rfl)⟩ : _ ∧ k_ ≠ go51))) (fun _ hk => hk.2) (.int .i64 ((rd_T46 t234 (ji44)).f0))) (fun _ hk => hk.2) (.int .i64 ((rd_T46 t234 (ji44)).f1))) (fun _ hk => hk.2) (.int .i64 ((rd_T46 t234 (ji44)).f2))) (fun _ hk => hk.2) (.int .u64 ((rd_T46 t234 (ji44)).f3))) (fun _ hk => hk.2) (.int .i64 ((rd_T46 t234 (ji44)).f4))) (fun _ hk => hk.2) (.bool ((rd_T46 t234 (ji44)).f5))) (fun _ hk => hk.2) (.int .i64 ((rd_T46 t234 (ji44)).f6))) (fun _ hk => hk.2) (.int .i64 ((rd_T46 t234 (ji47)).f0))) (fun _ hk => hk.2) (.int .i64 ((rd_T46 t234 (ji47)).f1))) (fun _ hk => hk.2) (.int .i64 ((rd_T46 t234 (ji47)).f2))) (fun _ hk => hk.2) (.int .u64 ((rd_T46 t234 (ji47)).f3))) (fun _ hk => hk.2) (.int .i64 ((rd_T46 t234 (ji47)).f4))) (fun _ hk => hk.2) (.bool ((rd_T46 t234 (ji47)).f5))) (fun _ hk => hk.2) (.int .i64 ((rd_T46 t234 (ji47)).f6))) (fun _ hk => ⟨hk.1.1, hk.1.2⟩)⟩
                      have n1_ : Aside0 (Kd.R k46 46 ((((((((((((((w60.setCell ⟨go51, ((ji47) : Int).toNat * 7, none⟩ (.int .i64 ((rd_T46 t234 (ji44)).f0))).setCell ⟨go51, ((ji47) : Int).toNat * 7 + 1, none⟩ (.int .i64 ((rd_T46 t234 (ji44)).f1))).setCell ⟨go51, ((ji47) : Int).toNat * 7 + 2, none⟩ (.int .i64 ((rd_T46 t234 (ji44)).f2))).setCell ⟨go51, ((ji47) : Int).toNat * 7 + 3, none⟩ (.int .u64 ((rd_T46 t234 (ji44)).f3))).setCell ⟨go51, ((ji47) : Int).toNat * 7 + 4, none⟩ (.int .i64 ((rd_T46 t234 (ji44)).f4))).setCell ⟨go51, ((ji47) : Int).toNat * 7 + 5, none⟩ (.bool ((rd_T46 t234 (ji44)).f5))).setCell ⟨go51, ((ji47) : Int).toNat * 7 + 6, none⟩ (.int .i64 ((rd_T46 t234 (ji44)).f6))).setCell ⟨go51, ((ji44) : Int).toNat * 7, none⟩ (.int .i64 ((rd_T46 t234 (ji47)).f0))).setCell ⟨go51, ((ji44) : Int).toNat * 7 + 1, none⟩ (.int .i64 ((rd_T46 t234 (ji47)).f1))).setCell ⟨go51, ((ji44) : Int).toNat * 7 + 2, none⟩ (.int .i64 ((rd_T46 t234 (ji47)).f2))).setCell ⟨go51, ((ji44) : Int).toNat * 7 + 3, none⟩ (.int .u64 ((rd_T46 t234 (ji47)).f3))).setCell ⟨go51, ((ji44) : Int).toNat * 7 + 4, none⟩ (.int .i64 ((rd_T46 t234 (ji47)).f4))).setCell ⟨go51, ((ji44) : Int).toNat * 7 + 5, none⟩ (.bool ((rd_T46 t234 (ji47)).f5))).setCell ⟨go51, ((ji44) : Int).toNat * 7 + 6, none⟩ (.int .i64 ((rd_T46 t234 (ji47)).f6))) w.heap.size (fun k_ => some k_ ≠ (.slice (some ad275) t234.length co16 : Value).ownBlock ∧ some k_ ≠ (.slice (some ⟨go51, 0, none⟩) y272.length co51 : Value).ownBlock) v242 t240) := ⟨by (with_reducible repeat (first | apply Kd.R_alloc | apply Kd.R_drewN | apply Kd.R_drew)); exact Kd.R_mono (Kd.R_far (p := ⟨go51, ((ji44) : Int).toNat * 7 + 6, none⟩) (Kd.R_far (p := ⟨go51, ((ji44) : Int).toNat * 7 + 5, none⟩) (Kd.R_far (p := ⟨go51, ((ji44) : Int).toNat * 7 + 4, none⟩) (Kd.R_far (p := ⟨go51, ((ji44) : Int).toNat * 7 + 3, none⟩) (Kd.R_far (p := ⟨go51, ((ji44) : Int).toNat * 7 + 2, none⟩) (Kd.R_far (p := ⟨go51, ((ji44) : Int).toNat * 7 + 1, none⟩) (Kd.R_far (p := ⟨go51, ((ji44) : Int).toNat * 7, none⟩) (Kd.R_far (p := ⟨go51, ((ji47) : Int).toNat * 7 + 6, none⟩) (Kd.R_far (p := ⟨go51, ((ji47) : Int).toNat * 7 + 5, none⟩) (Kd.R_far (p := ⟨go51, ((ji47) : Int).toNat * 7 + 4, none⟩) (Kd.R_far (p := ⟨go51, ((ji47) : Int).toNat * 7 + 3, none⟩) (Kd.R_far (p := ⟨go51, ((ji47) : Int).toNat * 7 + 2, none⟩) (Kd.R_far (p := ⟨go51, ((ji47) : Int).toNat * 7 + 1, none⟩) (Kd.R_far (p := ⟨go51, ((ji47) : Int).toNat * 7, none⟩) (Kd.R_mono HO_6.out (fun k_ hk => (⟨hk, fun e_ => hk.2 (by rw [e_]; rfl)⟩ : _ ∧ k_ ≠ go51))) (fun _ hk => hk.2) (.int .i64 ((rd_T46 t234 (ji44)).f0))) (fun _ hk => hk.2) (.int .i64 ((rd_T46 t234 (ji44)).f1))) (fun _ hk => hk.2) (.int .i64 ((rd_T46 t234 (ji44)).f2))) (fun _ hk => hk.2) (.int .u64 ((rd_T46 t234 (ji44)).f3))) (fun _ hk => hk.2) (.int .i64 ((rd_T46 t234 (ji44)).f4))) (fun _ hk => hk.2) (.bool ((rd_T46 t234 (ji44)).f5))) (fun _ hk => hk.2) (.int .i64 ((rd_T46 t234 (ji44)).f6))) (fun _ hk => hk.2) (.int .i64 ((rd_T46 t234 (ji47)).f0))) (fun _ hk => hk.2) (.int .i64 ((rd_T46 t234 (ji47)).f1))) (fun _ hk => hk.2) (.int .i64 ((rd_T46 t234 (ji47)).f2))) (fun _ hk => hk.2) (.int .u64 ((rd_T46 t234 (ji47)).f3))) (fun _ hk => hk.2) (.int .i64 ((rd_T46 t234 (ji47)).f4))) (fun _ hk => hk.2) (.bool ((rd_T46 t234 (ji47)).f5))) (fun _ hk => hk.2) (.int .i64 ((rd_T46 t234 (ji47)).f6))) (fun _ hk => ⟨hk.1.1, hk.1.2⟩)⟩
                      have n2_ : Aside0 (Kd.R k46 46 ((((((((((((((w60.setCell ⟨go51, ((ji47) : Int).toNat * 7, none⟩ (.int .i64 ((rd_T46 t234 (ji44)).f0))).setCell ⟨go51, ((ji47) : Int).toNat * 7 + 1, none⟩ (.int .i64 ((rd_T46 t234 (ji44)).f1))).setCell ⟨go51, ((ji47) : Int).toNat * 7 + 2, none⟩ (.int .i64 ((rd_T46 t234 (ji44)).f2))).setCell ⟨go51, ((ji47) : Int).toNat * 7 + 3, none⟩ (.int .u64 ((rd_T46 t234 (ji44)).f3))).setCell ⟨go51, ((ji47) : Int).toNat * 7 + 4, none⟩ (.int .i64 ((rd_T46 t234 (ji44)).f4))).setCell ⟨go51, ((ji47) : Int).toNat * 7 + 5, none⟩ (.bool ((rd_T46 t234 (ji44)).f5))).setCell ⟨go51, ((ji47) : Int).toNat * 7 + 6, none⟩ (.int .i64 ((rd_T46 t234 (ji44)).f6))).setCell ⟨go51, ((ji44) : Int).toNat * 7, none⟩ (.int .i64 ((rd_T46 t234 (ji47)).f0))).setCell ⟨go51, ((ji44) : Int).toNat * 7 + 1, none⟩ (.int .i64 ((rd_T46 t234 (ji47)).f1))).setCell ⟨go51, ((ji44) : Int).toNat * 7 + 2, none⟩ (.int .i64 ((rd_T46 t234 (ji47)).f2))).setCell ⟨go51, ((ji44) : Int).toNat * 7 + 3, none⟩ (.int .u64 ((rd_T46 t234 (ji47)).f3))).setCell ⟨go51, ((ji44) : Int).toNat * 7 + 4, none⟩ (.int .i64 ((rd_T46 t234 (ji47)).f4))).setCell ⟨go51, ((ji44) : Int).toNat * 7 + 5, none⟩ (.bool ((rd_T46 t234 (ji47)).f5))).setCell ⟨go51, ((ji44) : Int).toNat * 7 + 6, none⟩ (.int .i64 ((rd_T46 t234 (ji47)).f6))) w.heap.size (fun k_ => some k_ ≠ (.slice (some ad275) t234.length co16 : Value).ownBlock ∧ some k_ ≠ (v242 : Value).ownBlock) (.slice (some ⟨go51, 0, none⟩) y272.length co51) y278) := ⟨by (with_reducible repeat (first | apply Kd.R_alloc | apply Kd.R_drewN | apply Kd.R_drew)); exact HQ62.out⟩
                      have n3_ : Aside0 (Below w.heap.size w ((((((((((((((w60.setCell ⟨go51, ((ji47) : Int).toNat * 7, none⟩ (.int .i64 ((rd_T46 t234 (ji44)).f0))).setCell ⟨go51, ((ji47) : Int).toNat * 7 + 1, none⟩ (.int .i64 ((rd_T46 t234 (ji44)).f1))).setCell ⟨go51, ((ji47) : Int).toNat * 7 + 2, none⟩ (.int .i64 ((rd_T46 t234 (ji44)).f2))).setCell ⟨go51, ((ji47) : Int).toNat * 7 + 3, none⟩ (.int .u64 ((rd_T46 t234 (ji44)).f3))).setCell ⟨go51, ((ji47) : Int).toNat * 7 + 4, none⟩ (.int .i64 ((rd_T46 t234 (ji44)).f4))).setCell ⟨go51, ((ji47) : Int).toNat * 7 + 5, none⟩ (.bool ((rd_T46 t234 (ji44)).f5))).setCell ⟨go51, ((ji47) : Int).toNat * 7 + 6, none⟩ (.int .i64 ((rd_T46 t234 (ji44)).f6))).setCell ⟨go51, ((ji44) : Int).toNat * 7, none⟩ (.int .i64 ((rd_T46 t234 (ji47)).f0))).setCell ⟨go51, ((ji44) : Int).toNat * 7 + 1, none⟩ (.int .i64 ((rd_T46 t234 (ji47)).f1))).setCell ⟨go51, ((ji44) : Int).toNat * 7 + 2, none⟩ (.int .i64 ((rd_T46 t234 (ji47)).f2))).setCell ⟨go51, ((ji44) : Int).toNat * 7 + 3, none⟩ (.int .u64 ((rd_T46 t234 (ji47)).f3))).setCell ⟨go51, ((ji44) : Int).toNat * 7 + 4, none⟩ (.int .i64 ((rd_T46 t234 (ji47)).f4))).setCell ⟨go51, ((ji44) : Int).toNat * 7 + 5, none⟩ (.bool ((rd_T46 t234 (ji47)).f5))).setCell ⟨go51, ((ji44) : Int).toNat * 7 + 6, none⟩ (.int .i64 ((rd_T46 t234 (ji47)).f6)))) := ⟨by repeat (first | (with_reducible first | exact HB.out | apply below_alloc | apply pw_below_drewN | apply below_drew1 | refine below_set ?_ GB51.out | refine below_set ?_ GB51.out | refine below_set ?_ GB51.out | refine below_set ?_ GB51.out | refine below_set ?_ GB51.out | refine below_set ?_ GB51.out | refine below_set ?_ GB51.out | refine below_set ?_ GB51.out | refine below_set ?_ GB51.out | refine below_set ?_ GB51.out | refine below_set ?_ GB51.out | refine below_set ?_ GB51.out | refine below_set ?_ GB51.out | refine below_set ?_ GB51.out) | exact HB.out)⟩
                      (try clear HO_0)
                      (try clear HO_6)
                      (try clear HO274)
                      (try clear HB)
                      generalize ((((((((((((((w60.setCell ⟨go51, ((ji47) : Int).toNat * 7, none⟩ (.int .i64 ((rd_T46 t234 (ji44)).f0))).setCell ⟨go51, ((ji47) : Int).toNat * 7 + 1, none⟩ (.int .i64 ((rd_T46 t234 (ji44)).f1))).setCell ⟨go51, ((ji47) : Int).toNat * 7 + 2, none⟩ (.int .i64 ((rd_T46 t234 (ji44)).f2))).setCell ⟨go51, ((ji47) : Int).toNat * 7 + 3, none⟩ (.int .u64 ((rd_T46 t234 (ji44)).f3))).setCell ⟨go51, ((ji47) : Int).toNat * 7 + 4, none⟩ (.int .i64 ((rd_T46 t234 (ji44)).f4))).setCell ⟨go51, ((ji47) : Int).toNat * 7 + 5, none⟩ (.bool ((rd_T46 t234 (ji44)).f5))).setCell ⟨go51, ((ji47) : Int).toNat * 7 + 6, none⟩ (.int .i64 ((rd_T46 t234 (ji44)).f6))).setCell ⟨go51, ((ji44) : Int).toNat * 7, none⟩ (.int .i64 ((rd_T46 t234 (ji47)).f0))).setCell ⟨go51, ((ji44) : Int).toNat * 7 + 1, none⟩ (.int .i64 ((rd_T46 t234 (ji47)).f1))).setCell ⟨go51, ((ji44) : Int).toNat * 7 + 2, none⟩ (.int .i64 ((rd_T46 t234 (ji47)).f2))).setCell ⟨go51, ((ji44) : Int).toNat * 7 + 3, none⟩ (.int .u64 ((rd_T46 t234 (ji47)).f3))).setCell ⟨go51, ((ji44) : Int).toNat * 7 + 4, none⟩ (.int .i64 ((rd_T46 t234 (ji47)).f4))).setCell ⟨go51, ((ji44) : Int).toNat * 7 + 5, none⟩ (.bool ((rd_T46 t234 (ji47)).f5))).setCell ⟨go51, ((ji44) : Int).toNat * 7 + 6, none⟩ (.int .i64 ((rd_T46 t234 (ji47)).f6))) = w63 at n0_ n1_ n2_ n3_ ⊢
                      have HO_0 := n0_
                      have HO_6 := n1_
                      have HO274 := n2_
                      have HB := n3_
                      clear n0_ n1_ n2_ n3_
                      have n0_ := Aside0.mk (Kd.R_drew HO_0.out)
                      have n1_ := Aside0.mk (Kd.R_drew HO_6.out)
                      have n2_ := Aside0.mk (Kd.R_drew HO274.out)
                      have n3_ := Aside0.mk (below_drew1 HB.out)
                      clear HO_0
                      clear HO_6
                      clear HO274
                      clear HB
                      have HO_0 := n0_
                      have HO_6 := n1_
                      have HO274 := n2_
                      have HB := n3_
                      clear n0_ n1_ n2_ n3_
                      have p282 : 0 ≤ ((ji47) : Int) := of_decide_eq_true (by first | (with_reducible assumption) | assumption)
                      have q282 : (ji47) < (t234.length : Int) := of_decide_eq_true (by first | (with_reducible assumption) | assumption)
                      obtain ⟨ad282, e282, hx282_0, hx282_1, hx282_2, hx282_3, hx282_4, hx282_5, hx282_6⟩ := at_T46 (Kd.R_reads' HO_0.out).2.2 (ji47) p282 q282
                      obtain rfl : ad275 = ad282 := (by injection e282)
                      replace p282 := eq_true p282
                      replace q282 := eq_true q282
                      have p283 : 0 ≤ ((ji44) : Int) := of_decide_eq_true (by first | (with_reducible assumption) | assumption)
                      have q283 : (ji44) < (t234.length : Int) := of_decide_eq_true (by first | (with_reducible assumption) | assumption)
                      obtain ⟨ad283, e283, hx283_0, hx283_1, hx283_2, hx283_3, hx283_4, hx283_5, hx283_6⟩ := at_T46 (Kd.R_reads' HO_0.out).2.2 (ji44) p283 q283
                      obtain rfl : ad275 = ad283 := (by injection e283)
                      replace p283 := eq_true p283
                      replace q283 := eq_true q283
                      refine start_ (n := 21) (S := fun w' => w'.cell? (ad275.add (((ji47)).toNat * 7)) = some (.int .i64 ((rd_T46 t234 (ji47)).f0)) ∧ w'.cell? ⟨(ad275.add (((ji47)).toNat * 7)).block, (ad275.add (((ji47)).toNat * 7)).off + 1, none⟩ = some (.int .i64 ((rd_T46 t234 (ji47)).f1)) ∧ w'.cell? ⟨(ad275.add (((ji47)).toNat * 7)).block, (ad275.add (((ji47)).toNat * 7)).off + 2, none⟩ = some (.int .i64 ((rd_T46 t234 (ji47)).f2)) ∧ w'.cell? ⟨(ad275.add (((ji47)).toNat * 7)).block, (ad275.add (((ji47)).toNat * 7)).off + 3, none⟩ = some (.int .u64 ((rd_T46 t234 (ji47)).f3)) ∧ w'.cell? ⟨(ad275.add (((ji47)).toNat * 7)).block, (ad275.add (((ji47)).toNat * 7)).off + 4, none⟩ = some (.int .i64 ((rd_T46 t234 (ji47)).f4)) ∧ w'.cell? ⟨(ad275.add (((ji47)).toNat * 7)).block, (ad275.add (((ji47)).toNat * 7)).off + 5, none⟩ = some (.bool ((rd_T46 t234 (ji47)).f5)) ∧ w'.cell? ⟨(ad275.add (((ji47)).toNat * 7)).block, (ad275.add (((ji47)).toNat * 7)).off + 6, none⟩ = some (.int .i64 ((rd_T46 t234 (ji47)).f6)) ∧ w'.cell? (ad275.add (((ji44)).toNat * 7)) = some (.int .i64 ((rd_T46 t234 (ji44)).f0)) ∧ w'.cell? ⟨(ad275.add (((ji44)).toNat * 7)).block, (ad275.add (((ji44)).toNat * 7)).off + 1, none⟩ = some (.int .i64 ((rd_T46 t234 (ji44)).f1)) ∧ w'.cell? ⟨(ad275.add (((ji44)).toNat * 7)).block, (ad275.add (((ji44)).toNat * 7)).off + 2, none⟩ = some (.int .i64 ((rd_T46 t234 (ji44)).f2)) ∧ w'.cell? ⟨(ad275.add (((ji44)).toNat * 7)).block, (ad275.add (((ji44)).toNat * 7)).off + 3, none⟩ = some (.int .u64 ((rd_T46 t234 (ji44)).f3)) ∧ w'.cell? ⟨(ad275.add (((ji44)).toNat * 7)).block, (ad275.add (((ji44)).toNat * 7)).off + 4, none⟩ = some (.int .i64 ((rd_T46 t234 (ji44)).f4)) ∧ w'.cell? ⟨(ad275.add (((ji44)).toNat * 7)).block, (ad275.add (((ji44)).toNat * 7)).off + 5, none⟩ = some (.bool ((rd_T46 t234 (ji44)).f5)) ∧ w'.cell? ⟨(ad275.add (((ji44)).toNat * 7)).block, (ad275.add (((ji44)).toNat * 7)).off + 6, none⟩ = some (.int .i64 ((rd_T46 t234 (ji44)).f6))) (ds := []) #[false, false, false, false, false, false, false, false, false, false, false, false, false, false, false, false, false, false, false, false, false] (by kernel_rfl) rfl rfl ⟨hx282_0, hx282_1, hx282_2, hx282_3, hx282_4, hx282_5, hx282_6, hx283_0, hx283_1, hx283_2, hx283_3, hx283_4, hx283_5, hx283_6⟩ (fun hHeld => ?_); refine with_tabW berthinglaw32_TraceBack.tab20 berthinglaw32_TraceBack.bits20 (fun HT_ HW_ => ?_)
                      generalize w63.drew = w64 at HO_0 HO_6 HO274 HB HQ62 hx282_0 hx282_1 hx282_2 hx282_3 hx282_4 hx282_5 hx282_6 hx283_0 hx283_1 hx283_2 hx283_3 hx283_4 hx283_5 hx283_6 hHeld ⊢
                      refine pure_ (i := 0) (N := some 113) (v := ?_) (a' := ?_) #[true, false, false, false, false, false, false, false, false, false, false, false, false, false, false, false, false, false, false, false, false] rfl rfl (any_of HT_.out (by kernel_rfl)) (fun _ _ _ h => h) (Or.inl ⟨by rfl, ?_⟩) ?_ ?_
                      rotate_left
                      ·intro w'
                       go_simp
                       with_reducible rfl
                      rotate_left
                      ·simp only [Act.put, List.setIfInBounds_toArray, List.set_cons_zero, List.set_cons_succ, i64_w, i32_w]
                       rfl
                      refine pure_ (i := 4) (N := some 117) (v := ?_) (a' := ?_) #[true, false, false, false, true, false, false, false, false, false, false, false, false, false, false, false, false, false, false, false, false] rfl rfl (any_of HT_.out (by kernel_rfl)) (fun _ _ _ h => h) (Or.inl ⟨by rfl, ?_⟩) ?_ ?_
                      rotate_left
                      ·intro w'
                       go_simp
                       with_reducible rfl
                      rotate_left
                      ·simp only [Act.put, List.setIfInBounds_toArray, List.set_cons_zero, List.set_cons_succ, i64_w, i32_w]
                       rfl
                      refine pure_ (i := 5) (N := some 118) (v := ?_) (a' := ?_) #[true, false, false, false, true, true, false, false, false, false, false, false, false, false, false, false, false, false, false, false, false] rfl rfl (any_of HT_.out (by kernel_rfl)) (fun _ _ _ h => h) (Or.inl ⟨by rfl, ?_⟩) ?_ ?_
                      rotate_left
                      ·intro w'
                       go_simp
                       with_reducible rfl
                      rotate_left
                      ·simp only [Act.put, List.setIfInBounds_toArray, List.set_cons_zero, List.set_cons_succ, i64_w, i32_w]
                       rfl
                      refine pure_ (i := 6) (N := some 119) (v := ?_) (a' := ?_) #[true, false, false, false, true, true, true, false, false, false, false, false, false, false, false, false, false, false, false, false, false] rfl rfl (any_of HT_.out (by kernel_rfl)) (fun _ _ _ h => h) (Or.inl ⟨by rfl, ?_⟩) ?_ ?_
                      rotate_left
                      ·intro w'
                       go_simp
                       with_reducible rfl
                      rotate_left
                      ·simp only [Act.put, List.setIfInBounds_toArray, List.set_cons_zero, List.set_cons_succ, i64_w, i32_w]
                       rfl
                      refine pure_ (i := 7) (N := some 120) (v := ?_) (a' := ?_) #[true, false, false, false, true, true, true, true, false, false, false, false, false, false, false, false, false, false, false, false, false] rfl rfl (any_of HT_.out (by kernel_rfl)) (fun _ _ _ h => h) (Or.inl ⟨by rfl, ?_⟩) ?_ ?_
                      rotate_left
                      ·intro w'
                       go_simp
                       with_reducible rfl
                      rotate_left
                      ·simp only [Act.put, List.setIfInBounds_toArray, List.set_cons_zero, List.set_cons_succ, i64_w, i32_w]
                       rfl
                      refine pure_ (i := 9) (N := some 122) (v := ?_) (a' := ?_) #[true, false, false, false, true, true, true, true, false, true, false, false, false, false, false, false, false, false, false, false, false] rfl rfl (any_of HT_.out (by kernel_rfl)) (fun _ _ _ h => h) (Or.inl ⟨by rfl, ?_⟩) ?_ ?_
                      rotate_left
                      ·intro w'
                       go_simp
                       with_reducible rfl
                      rotate_left
                      ·simp only [Act.put, List.setIfInBounds_toArray, List.set_cons_zero, List.set_cons_succ, i64_w, i32_w]
                       rfl
                      refine pure_ (i := 10) (N := some 123) (v := ?_) (a' := ?_) #[true, false, false, false, true, true, true, true, false, true, true, false, false, false, false, false, false, false, false, false, false] rfl rfl (any_of HT_.out (by kernel_rfl)) (fun _ _ _ h => h) (Or.inl ⟨by rfl, ?_⟩) ?_ ?_
                      rotate_left
                      ·intro w'
                       go_simp
                       with_reducible rfl
                      rotate_left
                      ·simp only [Act.put, List.setIfInBounds_toArray, List.set_cons_zero, List.set_cons_succ, i64_w, i32_w]
                       rfl
                      refine pure_ (i := 11) (N := some 124) (v := ?_) (a' := ?_) #[true, false, false, false, true, true, true, true, false, true, true, true, false, false, false, false, false, false, false, false, false] rfl rfl (any_of HT_.out (by kernel_rfl)) (fun _ _ _ h => h) (Or.inl ⟨by rfl, ?_⟩) ?_ ?_
                      rotate_left
                      ·intro w'
                       go_simp
                       with_reducible rfl
                      rotate_left
                      ·simp only [Act.put, List.setIfInBounds_toArray, List.set_cons_zero, List.set_cons_succ, i64_w, i32_w]
                       rfl
                      refine pure_ (i := 12) (N := some 125) (v := ?_) (a' := ?_) #[true, false, false, false, true, true, true, true, false, true, true, true, true, false, false, false, false, false, false, false, false] rfl rfl (any_of HT_.out (by kernel_rfl)) (fun _ _ _ h => h) (Or.inl ⟨by rfl, ?_⟩) ?_ ?_
                      rotate_left
                      ·intro w'
                       go_simp
                       with_reducible rfl
                      rotate_left
                      ·simp only [Act.put, List.setIfInBounds_toArray, List.set_cons_zero, List.set_cons_succ, i64_w, i32_w]
                       rfl
                      refine pure_ (i := 13) (N := some 126) (v := ?_) (a' := ?_) #[true, false, false, false, true, true, true, true, false, true, true, true, true, true, false, false, false, false, false, false, false] rfl rfl (any_of HT_.out (by kernel_rfl)) (fun _ _ _ h => h) (Or.inl ⟨by rfl, ?_⟩) ?_ ?_
                      rotate_left
                      ·intro w'
                       go_simp
                       with_reducible rfl
                      rotate_left
                      ·simp only [Act.put, List.setIfInBounds_toArray, List.set_cons_zero, List.set_cons_succ, i64_w, i32_w]
                       rfl
                      refine take_ (i := 8) (N := some 121) (v := ?_) (a' := ?_) #[true, false, false, false, true, true, true, true, true, true, true, true, true, true, false, false, false, false, false, false, false] rfl rfl (take_ofW HT_.out HW_.out (by kernel_rfl)) (fun _ _ _ h => h) (Or.inl ⟨by rfl, ?_⟩) hHeld ?_ ?_
                      rotate_left
                      ·rintro w' ⟨s0, s1, s2, s3, s4, s5, s6, s7, s8, s9, s10, s11, s12, s13⟩
                       go_simp
                       with_reducible rfl
                      rotate_left
                      ·simp only [Act.put, List.setIfInBounds_toArray, List.set_cons_zero, List.set_cons_succ, i64_w, i32_w]
                       rfl
                      refine take_ (i := 14) (N := some 127) (v := ?_) (a' := ?_) #[true, false, false, false, true, true, true, true, true, true, true, true, true, true, true, false, false, false, false, false, false] rfl rfl (take_ofW HT_.out HW_.out (by kernel_rfl)) (fun _ _ _ h => h) (Or.inl ⟨by rfl, ?_⟩) hHeld ?_ ?_
                      rotate_left
                      ·rintro w' ⟨s0, s1, s2, s3, s4, s5, s6, s7, s8, s9, s10, s11, s12, s13⟩
                       go_simp
                       with_reducible rfl
                      rotate_left
                      ·simp only [Act.put, List.setIfInBounds_toArray, List.set_cons_zero, List.set_cons_succ, i64_w, i32_w]
                       rfl
                      refine pure_ (i := 15) (N := some 128) (v := ?_) (a' := ?_) #[true, false, false, false, true, true, true, true, true, true, true, true, true, true, true, true, false, false, false, false, false] rfl rfl (any_of HT_.out (by kernel_rfl)) (fun _ _ _ h => h) (Or.inl ⟨by rfl, ?_⟩) ?_ ?_
                      rotate_left
                      ·intro w'
                       go_simp
                       with_reducible rfl
                      rotate_left
                      ·simp only [Act.put, List.setIfInBounds_toArray, List.set_cons_zero, List.set_cons_succ, i64_w, i32_w]
                       rfl
                      refine one_ (i := 1) (N := some 114) #[true, true, false, false, true, true, true, true, true, true, true, true, true, true, true, true, false, false, false, false, false] rfl rfl (one_of HT_.out (by kernel_rfl)) (by decide) (fun K hK => ?_)
                      refine goes_ Tryd.func9 (by kernel_rfl) rfl #[.slice (some ⟨go51, 0, none⟩) y278.length co51] (by rfl) rfl rfl (by (try simp only [List.map_toArray, List.map_cons, List.map_nil]); first | done | (rw [show y278.length = y272.length from (Kd.R_reads' HO274.out).1.symm] <;> rfl) | rfl | (simp only [List.length_drop, List.length_take]; rfl)) ?_
                      with_reducible refine (trace_Put.calls k2 _ _ y278 t279 _ ?side1 ?side2 A54.out).mono ?_
                      (case side1 => repeat (first | exact (Kd.R_reads' HO274.out).2.2 | (with_reducible refine Kd.C_alloc ?_ _) | (with_reducible refine Kd.C_drewN ?_ _) | (with_reducible refine Kd.C_drew ?_)))
                      (case side2 => rw [show y278.length = y272.length from (Kd.R_reads' HO274.out).1.symm]; exact (Kd.R_reads' HO274.out).2.1)
                      rintro e w65 ⟨v280, rfl, ho0, hb⟩
                      have HS0_ := (hb.cell (World.block_lt_of_cell? _ _ (hHeld.1))).trans (hHeld.1)
                      have HS1_ := (hb.cell (World.block_lt_of_cell? _ _ (hHeld.2.1))).trans (hHeld.2.1)
                      have HS2_ := (hb.cell (World.block_lt_of_cell? _ _ (hHeld.2.2.1))).trans (hHeld.2.2.1)
                      have HS3_ := (hb.cell (World.block_lt_of_cell? _ _ (hHeld.2.2.2.1))).trans (hHeld.2.2.2.1)
                      have HS4_ := (hb.cell (World.block_lt_of_cell? _ _ (hHeld.2.2.2.2.1))).trans (hHeld.2.2.2.2.1)
                      have HS5_ := (hb.cell (World.block_lt_of_cell? _ _ (hHeld.2.2.2.2.2.1))).trans (hHeld.2.2.2.2.2.1)
                      have HS6_ := (hb.cell (World.block_lt_of_cell? _ _ (hHeld.2.2.2.2.2.2.1))).trans (hHeld.2.2.2.2.2.2.1)
                      have HS7_ := (hb.cell (World.block_lt_of_cell? _ _ (hHeld.2.2.2.2.2.2.2.1))).trans (hHeld.2.2.2.2.2.2.2.1)
                      have HS8_ := (hb.cell (World.block_lt_of_cell? _ _ (hHeld.2.2.2.2.2.2.2.2.1))).trans (hHeld.2.2.2.2.2.2.2.2.1)
                      have HS9_ := (hb.cell (World.block_lt_of_cell? _ _ (hHeld.2.2.2.2.2.2.2.2.2.1))).trans (hHeld.2.2.2.2.2.2.2.2.2.1)
                      have HS10_ := (hb.cell (World.block_lt_of_cell? _ _ (hHeld.2.2.2.2.2.2.2.2.2.2.1))).trans (hHeld.2.2.2.2.2.2.2.2.2.2.1)
                      have HS11_ := (hb.cell (World.block_lt_of_cell? _ _ (hHeld.2.2.2.2.2.2.2.2.2.2.2.1))).trans (hHeld.2.2.2.2.2.2.2.2.2.2.2.1)
                      have HS12_ := (hb.cell (World.block_lt_of_cell? _ _ (hHeld.2.2.2.2.2.2.2.2.2.2.2.2.1))).trans (hHeld.2.2.2.2.2.2.2.2.2.2.2.2.1)
                      have HS13_ := (hb.cell (World.block_lt_of_cell? _ _ (hHeld.2.2.2.2.2.2.2.2.2.2.2.2.2))).trans (hHeld.2.2.2.2.2.2.2.2.2.2.2.2.2)
                      refine ⟨_, rfl, ?_⟩
                      have n0_ := Aside0.mk (Kd.R_below (by (with_reducible repeat (first | apply Kd.R_alloc | apply Kd.R_drewN | apply Kd.R_drew)); exact HO_0.out) hb)
                      have n1_ := Aside0.mk (Kd.R_below (by (with_reducible repeat (first | apply Kd.R_alloc | apply Kd.R_drewN | apply Kd.R_drew)); exact HO_6.out) hb)
                      have n2_ := Aside0.mk (Kd.R_below (by (with_reducible repeat (first | apply Kd.R_alloc | apply Kd.R_drewN | apply Kd.R_drew)); exact HO274.out) hb)
                      have n3_ := Aside0.mk (Kd.V_lower (Kd.V_mono (ok' := fun k_ => some k_ ≠ (.slice (some ad275) t234.length co16 : Value).ownBlock ∧ some k_ ≠ (v242 : Value).ownBlock ∧ some k_ ≠ (.slice (some ⟨go51, 0, none⟩) y272.length co51 : Value).ownBlock) ho0 (fun k_ hk_ => ⟨(Kd.fresh' (Kd.R_lt (by (with_reducible repeat (first | apply Kd.R_alloc | apply Kd.R_drewN | apply Kd.R_drew)); exact HO_0.out)) k_ hk_), (Kd.fresh' (Kd.R_lt (by (with_reducible repeat (first | apply Kd.R_alloc | apply Kd.R_drewN | apply Kd.R_drew)); exact HO_6.out)) k_ hk_), (Kd.fresh' (Kd.R_lt (by (with_reducible repeat (first | apply Kd.R_alloc | apply Kd.R_drewN | apply Kd.R_drew)); exact HO274.out)) k_ hk_)⟩)) (below_size (by repeat (first | (with_reducible first | exact HB.out | apply below_alloc | apply pw_below_drewN | apply below_drew1) | exact HB.out))))
                      have n4_ := Aside0.mk (below_step (by repeat (first | (with_reducible first | exact HB.out | apply below_alloc | apply pw_below_drewN | apply below_drew1) | exact HB.out)) hb)
                      clear HO_0
                      clear HO_6
                      clear HO274
                      clear HB
                      have HO_0 := n0_
                      have HO_6 := n1_
                      have HO274 := n2_
                      have HO281 := n3_
                      have HB := n4_
                      clear n0_ n1_ n2_ n3_ n4_
                      (try clear hb)
                      (try clear hb2)
                      (try clear hk)
                      (try clear hi)
                      (try clear ho0)
                      obtain ⟨Ao66, co66, eo66⟩ := Kd.V_slice HO281.out
                      (first | subst eo66 | (injection eo66 with f1_ f2_ f3_; have f4_ := f1_.symm; have f5_ := f3_.symm; clear f1_ f2_ f3_; subst f4_; subst f5_))
                      refine hK.out _ _ ⟨HS0_, HS1_, HS2_, HS3_, HS4_, HS5_, HS6_, HS7_, HS8_, HS9_, HS10_, HS11_, HS12_, HS13_⟩ (fun hHeld => ?_)
                      clear hK K
                      refine norm_ (a' := ?_) ?_ ?_
                      rotate_left
                      ·show Act.put _ (some 114) _ = _
                       simp only [Act.put, List.setIfInBounds_toArray, List.set_cons_zero, List.set_cons_succ, i64_w, i32_w]
                       rfl
                      refine pure_ (i := 2) (N := some 115) (v := ?_) (a' := ?_) #[true, true, true, false, true, true, true, true, true, true, true, true, true, true, true, true, false, false, false, false, false] rfl rfl (any_of HT_.out (by kernel_rfl)) (fun _ _ _ h => h) (Or.inl ⟨by rfl, ?_⟩) ?_ ?_
                      rotate_left
                      ·intro w'
                       go_simp
                       with_reducible rfl
                      rotate_left
                      ·simp only [Act.put, List.setIfInBounds_toArray, List.set_cons_zero, List.set_cons_succ, i64_w, i32_w]
                       rfl
                      refine pure_ (i := 3) (N := some 116) (v := ?_) (a' := ?_) #[true, true, true, true, true, true, true, true, true, true, true, true, true, true, true, true, false, false, false, false, false] rfl rfl (any_of HT_.out (by kernel_rfl)) (fun _ _ _ h => h) (Or.inl ⟨by rfl, ?_⟩) ?_ ?_
                      rotate_left
                      ·intro w'
                       go_simp
                       with_reducible rfl
                      rotate_left
                      ·simp only [Act.put, List.setIfInBounds_toArray, List.set_cons_zero, List.set_cons_succ, i64_w, i32_w]
                       rfl
                      refine pure_ (i := 16) (N := some 129) (v := ?_) (a' := ?_) #[true, true, true, true, true, true, true, true, true, true, true, true, true, true, true, true, true, false, false, false, false] rfl rfl (any_of HT_.out (by kernel_rfl)) (fun _ _ _ h => h) (Or.inl ⟨by rfl, ?_⟩) ?_ ?_
                      rotate_left
                      ·intro w'
                       go_simp
                       with_reducible rfl
                      rotate_left
                      ·simp only [Act.put, List.setIfInBounds_toArray, List.set_cons_zero, List.set_cons_succ, i64_w, i32_w]
                       rfl
                      refine pure_ (i := 17) (N := some 130) (v := ?_) (a' := ?_) #[true, true, true, true, true, true, true, true, true, true, true, true, true, true, true, true, true, true, false, false, false] rfl rfl (any_of HT_.out (by kernel_rfl)) (fun _ _ _ h => h) (Or.inl ⟨by rfl, ?_⟩) ?_ ?_
                      rotate_left
                      ·intro w'
                       go_simp
                       with_reducible rfl
                      rotate_left
                      ·simp only [Act.put, List.setIfInBounds_toArray, List.set_cons_zero, List.set_cons_succ, i64_w, i32_w]
                       rfl
                      refine one_ (i := 18) (N := some 131) #[true, true, true, true, true, true, true, true, true, true, true, true, true, true, true, true, true, true, true, false, false] rfl rfl (one_of HT_.out (by kernel_rfl)) (by decide) (fun K hK => ?_)
                      refine goes_ Tryd.func12 (by kernel_rfl) rfl #[] (by rfl) rfl rfl (by (try simp only [List.map_toArray, List.map_cons, List.map_nil]); first | done | rfl | (simp only [List.length_drop, List.length_take]; rfl)) ?_
                      with_reducible refine (berthinglaw32_one.calls k2  t284 _ (Cur.ErrT.go (by repeat (first | (with_reducible first | exact HB.out | apply below_alloc | apply pw_below_drewN | apply below_drew1) | exact HB.out)) hT) A56.out).mono ?_
                      rintro e w67 ⟨rfl, hb⟩
                      have HS0_ := (hb.cell (World.block_lt_of_cell? _ _ (hHeld.1))).trans (hHeld.1)
                      have HS1_ := (hb.cell (World.block_lt_of_cell? _ _ (hHeld.2.1))).trans (hHeld.2.1)
                      have HS2_ := (hb.cell (World.block_lt_of_cell? _ _ (hHeld.2.2.1))).trans (hHeld.2.2.1)
                      have HS3_ := (hb.cell (World.block_lt_of_cell? _ _ (hHeld.2.2.2.1))).trans (hHeld.2.2.2.1)
                      have HS4_ := (hb.cell (World.block_lt_of_cell? _ _ (hHeld.2.2.2.2.1))).trans (hHeld.2.2.2.2.1)
                      have HS5_ := (hb.cell (World.block_lt_of_cell? _ _ (hHeld.2.2.2.2.2.1))).trans (hHeld.2.2.2.2.2.1)
                      have HS6_ := (hb.cell (World.block_lt_of_cell? _ _ (hHeld.2.2.2.2.2.2.1))).trans (hHeld.2.2.2.2.2.2.1)
                      have HS7_ := (hb.cell (World.block_lt_of_cell? _ _ (hHeld.2.2.2.2.2.2.2.1))).trans (hHeld.2.2.2.2.2.2.2.1)
                      have HS8_ := (hb.cell (World.block_lt_of_cell? _ _ (hHeld.2.2.2.2.2.2.2.2.1))).trans (hHeld.2.2.2.2.2.2.2.2.1)
                      have HS9_ := (hb.cell (World.block_lt_of_cell? _ _ (hHeld.2.2.2.2.2.2.2.2.2.1))).trans (hHeld.2.2.2.2.2.2.2.2.2.1)
                      have HS10_ := (hb.cell (World.block_lt_of_cell? _ _ (hHeld.2.2.2.2.2.2.2.2.2.2.1))).trans (hHeld.2.2.2.2.2.2.2.2.2.2.1)
                      have HS11_ := (hb.cell (World.block_lt_of_cell? _ _ (hHeld.2.2.2.2.2.2.2.2.2.2.2.1))).trans (hHeld.2.2.2.2.2.2.2.2.2.2.2.1)
                      have HS12_ := (hb.cell (World.block_lt_of_cell? _ _ (hHeld.2.2.2.2.2.2.2.2.2.2.2.2.1))).trans (hHeld.2.2.2.2.2.2.2.2.2.2.2.2.1)
                      have HS13_ := (hb.cell (World.block_lt_of_cell? _ _ (hHeld.2.2.2.2.2.2.2.2.2.2.2.2.2))).trans (hHeld.2.2.2.2.2.2.2.2.2.2.2.2.2)
                      refine ⟨_, rfl, ?_⟩
                      have n0_ := Aside0.mk (Kd.R_below (by (with_reducible repeat (first | apply Kd.R_alloc | apply Kd.R_drewN | apply Kd.R_drew)); exact HO_0.out) hb)
                      have n1_ := Aside0.mk (Kd.R_below (by (with_reducible repeat (first | apply Kd.R_alloc | apply Kd.R_drewN | apply Kd.R_drew)); exact HO_6.out) hb)
                      have n2_ := Aside0.mk (Kd.R_below (by (with_reducible repeat (first | apply Kd.R_alloc | apply Kd.R_drewN | apply Kd.R_drew)); exact HO274.out) hb)
                      have n3_ := Aside0.mk (Kd.V_below (by (with_reducible repeat (first | apply Kd.V_alloc | apply Kd.V_drewN | apply Kd.V_drew)); exact HO281.out) hb)
                      have n4_ := Aside0.mk (below_step (by repeat (first | (with_reducible first | exact HB.out | apply below_alloc | apply pw_below_drewN | apply below_drew1) | exact HB.out)) hb)
                      clear HO_0
                      clear HO_6
                      clear HO274
                      clear HO281
                      clear HB
                      have HO_0 := n0_
                      have HO_6 := n1_
                      have HO274 := n2_
                      have HO281 := n3_
                      have HB := n4_
                      clear n0_ n1_ n2_ n3_ n4_
                      (try clear hb)
                      (try clear hb2)
                      (try clear hk)
                      (try clear hi)
                      refine hK.out _ _ ⟨HS0_, HS1_, HS2_, HS3_, HS4_, HS5_, HS6_, HS7_, HS8_, HS9_, HS10_, HS11_, HS12_, HS13_⟩ (fun hHeld => ?_)
                      clear hK K
                      refine norm_ (a' := ?_) ?_ ?_
                      rotate_left
                      ·show Act.put _ (some 131) _ = _
                       simp only [Act.put, List.setIfInBounds_toArray, List.set_cons_zero, List.set_cons_succ, i64_w, i32_w]
                       rfl
                      refine pure_ (i := 19) (N := some 132) (v := ?_) (a' := ?_) #[true, true, true, true, true, true, true, true, true, true, true, true, true, true, true, true, true, true, true, true, false] rfl rfl (any_of HT_.out (by kernel_rfl)) (fun _ _ _ h => h) (Or.inl ⟨by rfl, ?_⟩) ?_ ?_
                      rotate_left
                      ·intro w'
                       go_simp
                       with_reducible rfl
                      rotate_left
                      ·simp only [Act.put, List.setIfInBounds_toArray, List.set_cons_zero, List.set_cons_succ, i64_w, i32_w]
                       rfl
                      refine pure_ (i := 20) (N := some 4) (v := ?_) (a' := ?_) #[true, true, true, true, true, true, true, true, true, true, true, true, true, true, true, true, true, true, true, true, true] rfl rfl (any_of HT_.out (by kernel_rfl)) (fun _ _ _ h => h) (Or.inl ⟨by rfl, ?_⟩) ?_ ?_
                      rotate_left
                      ·intro w'
                       go_simp
                       with_reducible rfl
                      rotate_left
                      ·simp only [Act.put, List.setIfInBounds_toArray, List.set_cons_zero, List.set_cons_succ, i64_w, i32_w]
                       rfl
                      refine done_ (done_of HT_.out (by kernel_rfl)) ?_
                      try go_wp2
                      go_ret
                      exact ⟨by first | rfl | (simp [errW_none, errW_some] <;> rfl) | (simp only [← hji7, ← hji44, ← hji47]; first | rfl | (simp [errW_none, errW_some] <;> rfl)) | (simp [*, errW_none, errW_some] <;> rfl), by repeat (first | (with_reducible first | exact HB.out | apply below_alloc | apply pw_below_drewN | apply below_drew1) | exact HB.out)⟩
                     ·rw [if_neg c55] at H
                      exact absurd H (by simp)
                    ·rw [if_neg c52] at H
                     exact absurd H (by simp)
                   ·rw [if_neg c50] at H
                    exact absurd H (by simp)
                  ·rw [if_neg c49] at H
                   exact absurd H (by simp)
                 ·rw [if_neg c48] at H
                  exact absurd H (by simp)
                ·rw [if_neg c46] at H
                 exact absurd H (by simp)
               ·rw [if_neg c45] at H
                exact absurd H (by simp)
              ·rw [if_neg c43] at H
               exact absurd H (by simp)
     ·rw [if_neg c12] at H
      exact absurd H (by simp)
    ·rw [if_neg c11] at H
     exact absurd H (by simp)
   ·rw [if_neg c9] at H
    exact absurd H (by simp)
  ·rw [if_neg c8] at H
   exact absurd H (by simp)

end Go.Proofs.YtdpomgfibjlehaaDoor.PTr
