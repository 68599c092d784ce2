/- By a program of this session (the print, with contracts written by hand let in), key Sc: what the functions come to as Lean functions, and the contracts that lead from the Go code to them. Conditions: those of the statements. -/
import Derived.Test.YtkkjjogbfjahgaaDoorUK
import Derived.Test.YtkkjjogbfjahgaaDoorScClean
import Derived.Test.YtkkjjogbfjahgaaDoorScRead
import Derived.Test.YtkkjjogbfjahgaaDoorPScx0
import Derived.Test.YtkkjjogbfjahgaaDoorPScx3
import Derived.Test.YtkkjjogbfjahgaaDoorPScx9
import Derived.Test.YtkkjjogbfjahgaaDoorPScx14
import Derived.Test.YtkkjjogbfjahgaaDoorPScx22
import Derived.Test.YtkkjjogbfjahgaaDoorPScx23
import Derived.Lib.SliceRun
namespace Go.Proofs.YtkkjjogbfjahgaaDoor.PSc
open Go.Proofs.YtkkjjogbfjahgaaDoor.Us Go.RowKit Go.Proofs.YtkkjjogbfjahgaaDoorW.PrintWords Go.Proofs.YtkkjjogbfjahgaaDoorW.PrintLast Go.Proofs.YtkkjjogbfjahgaaDoorW.PrintMore
attribute [local go_sem] max2_int min2_int max_two min_two max_three min_three max_four min_four   -- for this text's walks alone
set_option linter.unusedVariables false
set_option linter.unusedSimpArgs false

attribute [local go_sem high] eqA42
attribute [local go_sem ↓ high] lb42
attribute [local go_sem high] ld42
/-! ### berthinglaw28_ScriptBack: function 5 -/
mutual
def berthinglaw28_ScriptBack.l0 : Nat → List (S42) → List (S42) → Int → Option (Bool)
 | 0, _, _, _ => none
 | k + 1, x0, x3, x4 => if x4 < (x0.length : Int) then (berthinglaw28_ScriptBack.j1 k x0 x3 x4 (decide (x4 < 40))) else (berthinglaw28_ScriptBack.j1 k x0 x3 x4 false)
def berthinglaw28_ScriptBack.j1 : Nat → List (S42) → List (S42) → Int → Bool → Option (Bool)
 | 0, _, _, _, _ => none
 | k + 1, x0, x3, x4, x20 => if x20 = true then (if 0 ≤ x4 then (if x4 < (x0.length : Int) then ((script_Step_Right.f k ((rd_T42 x0 x4).f0) ((rd_T42 x0 x4).f1.f0) ((rd_T42 x0 x4).f1.f1) ((rd_T42 x0 x4).f1.f2) ((rd_T42 x0 x4).f1.f3) ((rd_T42 x0 x4).f1.f4) ((rd_T42 x0 x4).f1.f5) ((rd_T42 x0 x4).f1.f6) ((rd_T42 x0 x4).f1.f7) ((rd_T42 x0 x4).f1.f8) ((rd_T42 x0 x4).f1.f9) ((rd_T42 x0 x4).f1.f10) ((rd_T42 x0 x4).f1.f11) ((rd_T42 x0 x4).f2) ((rd_T42 x0 x4).f3) ((rd_T42 x0 x4).f4.f0) ((rd_T42 x0 x4).f4.f1) ((rd_T42 x0 x4).f4.f2) ((rd_T42 x0 x4).f4.f3)).bind fun t465 => (if t465 = true then ((script_Step_Clean.f k ((rd_T42 x0 x4).f0) ((rd_T42 x0 x4).f1.f0) ((rd_T42 x0 x4).f1.f1) ((rd_T42 x0 x4).f1.f2) ((rd_T42 x0 x4).f1.f3) ((rd_T42 x0 x4).f1.f4) ((rd_T42 x0 x4).f1.f5) ((rd_T42 x0 x4).f1.f6) ((rd_T42 x0 x4).f1.f7) ((rd_T42 x0 x4).f1.f8) ((rd_T42 x0 x4).f1.f9) ((rd_T42 x0 x4).f1.f10) ((rd_T42 x0 x4).f1.f11) ((rd_T42 x0 x4).f2) ((rd_T42 x0 x4).f3) ((rd_T42 x0 x4).f4.f0) ((rd_T42 x0 x4).f4.f1) ((rd_T42 x0 x4).f4.f2) ((rd_T42 x0 x4).f4.f3)).bind fun bt467 => (if x3.length < 879609302220 then (berthinglaw28_ScriptBack.l0 k x0 (x3 ++ [(⟨bt467.1, (⟨bt467.2.1, bt467.2.2.1, bt467.2.2.2.1, bt467.2.2.2.2.1, bt467.2.2.2.2.2.1, bt467.2.2.2.2.2.2.1, bt467.2.2.2.2.2.2.2.1, bt467.2.2.2.2.2.2.2.2.1, bt467.2.2.2.2.2.2.2.2.2.1, bt467.2.2.2.2.2.2.2.2.2.2.1, bt467.2.2.2.2.2.2.2.2.2.2.2.1, bt467.2.2.2.2.2.2.2.2.2.2.2.2.1⟩ : S39), bt467.2.2.2.2.2.2.2.2.2.2.2.2.2.1, bt467.2.2.2.2.2.2.2.2.2.2.2.2.2.2.1, (⟨bt467.2.2.2.2.2.2.2.2.2.2.2.2.2.2.2.1, bt467.2.2.2.2.2.2.2.2.2.2.2.2.2.2.2.2.1, bt467.2.2.2.2.2.2.2.2.2.2.2.2.2.2.2.2.2.1, bt467.2.2.2.2.2.2.2.2.2.2.2.2.2.2.2.2.2.2⟩ : S40)⟩ : S42)]) (wrap64 (x4 + 1))) else (none))) else (berthinglaw28_ScriptBack.l0 k x0 x3 (wrap64 (x4 + 1))))) else (none)) else (none)) else ((script_Put.f k x3).bind fun t489 => ((script_Read.f t489).bind fun bt492 => (if bt492.2 = 0 then (berthinglaw28_ScriptBack.j2 k x3 t489 bt492.1 ((bt492.1.length : Int) != (x3.length : Int))) else (berthinglaw28_ScriptBack.j2 k x3 t489 bt492.1 true))))
def berthinglaw28_ScriptBack.j2 : Nat → List (S42) → List Int → List (S42) → Bool → Option (Bool)
 | 0, _, _, _, _ => none
 | k + 1, x3, x5, x6, x51 => if x51 = true then (none) else (berthinglaw28_ScriptBack.l1 k x3 x5 x6 0)
def berthinglaw28_ScriptBack.l1 : Nat → List (S42) → List Int → List (S42) → Int → Option (Bool)
 | 0, _, _, _, _ => none
 | k + 1, x3, x5, x6, x8 => if x8 < (x6.length : Int) then (if 0 ≤ x8 then (if x8 < (x3.length : Int) then (if (!(((rd_T42 x6 x8).f0) == ((rd_T42 x3 x8).f0)) || ((!(((rd_T42 x6 x8).f1.f0) == ((rd_T42 x3 x8).f1.f0)) || (!(((rd_T42 x6 x8).f1.f1) == ((rd_T42 x3 x8).f1.f1)) || (!(((rd_T42 x6 x8).f1.f2) == ((rd_T42 x3 x8).f1.f2)) || (!(((rd_T42 x6 x8).f1.f3) == ((rd_T42 x3 x8).f1.f3)) || (!(((rd_T42 x6 x8).f1.f4) == ((rd_T42 x3 x8).f1.f4)) || (!(((rd_T42 x6 x8).f1.f5) == ((rd_T42 x3 x8).f1.f5)) || (!(((rd_T42 x6 x8).f1.f6) == ((rd_T42 x3 x8).f1.f6)) || (!(((rd_T42 x6 x8).f1.f7) == ((rd_T42 x3 x8).f1.f7)) || (!(((rd_T42 x6 x8).f1.f8) == ((rd_T42 x3 x8).f1.f8)) || (!(((rd_T42 x6 x8).f1.f9) == ((rd_T42 x3 x8).f1.f9)) || (!(((rd_T42 x6 x8).f1.f10) == ((rd_T42 x3 x8).f1.f10)) || (!(((rd_T42 x6 x8).f1.f11) == ((rd_T42 x3 x8).f1.f11)))))))))))))) || (!((((rd_T42 x6 x8).f2).toList) == (((rd_T42 x3 x8).f2).toList)) || (!(((rd_T42 x6 x8).f3) == ((rd_T42 x3 x8).f3)) || ((!(((rd_T42 x6 x8).f4.f0) == ((rd_T42 x3 x8).f4.f0)) || (!(((rd_T42 x6 x8).f4.f1) == ((rd_T42 x3 x8).f4.f1)) || (!(((rd_T42 x6 x8).f4.f2) == ((rd_T42 x3 x8).f4.f2)) || (!(((rd_T42 x6 x8).f4.f3) == ((rd_T42 x3 x8).f4.f3))))))))))) = true then (none) else (berthinglaw28_ScriptBack.l1 k x3 x5 x6 (wrap64 (x8 + 1)))) else (none)) else (none)) else (if (x5.length : Int) = 0 then (if (x3.length : Int) = 0 then ((berthinglaw28_one.f k).bind fun t498 => (some t498)) else (none)) else (if 0 ≤ (wrap64 ((x5.length : Int) - 1)) then (if (wrap64 ((x5.length : Int) - 1)) ≤ (x5.length : Int) then ((script_Read.f (x5.take ((wrap64 ((x5.length : Int) - 1)) : Int).toNat)).bind fun bt503 => (if 65537 ≤ 281474976710656 then ((script_Read.f (List.replicate 65537 0)).bind fun bt510 => (if (bt503.1.length : Int) = (wrap64 ((x3.length : Int) - 1)) then (if bt510.2 = 3 then ((berthinglaw28_one.f k).bind fun t514 => (some t514)) else (none)) else (none))) else (none))) else (none)) else (none)))
end
def berthinglaw28_ScriptBack.f (k : Nat) (l0 : List (S42)) : Option (Bool) := berthinglaw28_ScriptBack.l0 k l0 ([] : List (S42)) 0
theorem berthinglaw28_ScriptBack.mono_l : ∀ k, (∀ y0 y1 y2, LeO (berthinglaw28_ScriptBack.l0 k y0 y1 y2) (berthinglaw28_ScriptBack.l0 (k + 1) y0 y1 y2)) ∧ (∀ y0 y1 y2 y3, LeO (berthinglaw28_ScriptBack.j1 k y0 y1 y2 y3) (berthinglaw28_ScriptBack.j1 (k + 1) y0 y1 y2 y3)) ∧ (∀ y0 y1 y2 y3, LeO (berthinglaw28_ScriptBack.j2 k y0 y1 y2 y3) (berthinglaw28_ScriptBack.j2 (k + 1) y0 y1 y2 y3)) ∧ (∀ y0 y1 y2 y3, LeO (berthinglaw28_ScriptBack.l1 k y0 y1 y2 y3) (berthinglaw28_ScriptBack.l1 (k + 1) y0 y1 y2 y3))
 | 0 => ⟨fun _ _ _ r h => by simp [berthinglaw28_ScriptBack.l0] at h, fun _ _ _ _ r h => by simp [berthinglaw28_ScriptBack.j1] at h, fun _ _ _ _ r h => by simp [berthinglaw28_ScriptBack.j2] at h, fun _ _ _ _ r h => by simp [berthinglaw28_ScriptBack.l1] at h⟩
 | k + 1 => by
  obtain ⟨ih0, ih1, ih2, ih3⟩ := berthinglaw28_ScriptBack.mono_l k
  refine ⟨?_, ?_, ?_, ?_⟩
  ·intro y0 y1 y2
   unfold berthinglaw28_ScriptBack.l0
   repeat' first
   | (with_reducible exact ih0 _ _ _)
   | (with_reducible exact ih1 _ _ _ _)
   | (with_reducible exact ih2 _ _ _ _)
   | (with_reducible exact ih3 _ _ _ _)
   | (with_reducible exact berthinglaw28_one.mono _)
   | (with_reducible exact script_Put.mono _ _)
   | (with_reducible exact script_Step_Clean.mono _ _ _ _ _ _ _ _ _ _ _ _ _ _ _ _ _ _ _ _)
   | (with_reducible exact script_Step_Right.mono _ _ _ _ _ _ _ _ _ _ _ _ _ _ _ _ _ _ _ _)
   | (with_reducible exact LeO.refl _)
   | (with_reducible exact LeO.none _)
   | (with_reducible refine LeO.ite ?_ ?_)
   | (with_reducible refine LeO.bind ?_ (fun _ => ?_))
   | exact ih0 _ _ _
   | exact ih1 _ _ _ _
   | exact ih2 _ _ _ _
   | exact ih3 _ _ _ _
   | exact berthinglaw28_one.mono _
   | exact script_Put.mono _ _
   | exact script_Step_Clean.mono _ _ _ _ _ _ _ _ _ _ _ _ _ _ _ _ _ _ _ _
   | exact script_Step_Right.mono _ _ _ _ _ _ _ _ _ _ _ _ _ _ _ _ _ _ _ _
   | exact LeO.none _
   | refine LeO.ite ?_ ?_
   | refine LeO.bind ?_ (fun _ => ?_)
  ·intro y0 y1 y2 y3
   unfold berthinglaw28_ScriptBack.j1
   repeat' first
   | (with_reducible exact ih0 _ _ _)
   | (with_reducible exact ih1 _ _ _ _)
   | (with_reducible exact ih2 _ _ _ _)
   | (with_reducible exact ih3 _ _ _ _)
   | (with_reducible exact berthinglaw28_one.mono _)
   | (with_reducible exact script_Put.mono _ _)
   | (with_reducible exact script_Step_Clean.mono _ _ _ _ _ _ _ _ _ _ _ _ _ _ _ _ _ _ _ _)
   | (with_reducible exact script_Step_Right.mono _ _ _ _ _ _ _ _ _ _ _ _ _ _ _ _ _ _ _ _)
   | (with_reducible exact LeO.refl _)
   | (with_reducible exact LeO.none _)
   | (with_reducible refine LeO.ite ?_ ?_)
   | (with_reducible refine LeO.bind ?_ (fun _ => ?_))
   | exact ih0 _ _ _
   | exact ih1 _ _ _ _
   | exact ih2 _ _ _ _
   | exact ih3 _ _ _ _
   | exact berthinglaw28_one.mono _
   | exact script_Put.mono _ _
   | exact script_Step_Clean.mono _ _ _ _ _ _ _ _ _ _ _ _ _ _ _ _ _ _ _ _
   | exact script_Step_Right.mono _ _ _ _ _ _ _ _ _ _ _ _ _ _ _ _ _ _ _ _
   | exact LeO.none _
   | refine LeO.ite ?_ ?_
   | refine LeO.bind ?_ (fun _ => ?_)
  ·intro y0 y1 y2 y3
   unfold berthinglaw28_ScriptBack.j2
   repeat' first
   | (with_reducible exact ih0 _ _ _)
   | (with_reducible exact ih1 _ _ _ _)
   | (with_reducible exact ih2 _ _ _ _)
   | (with_reducible exact ih3 _ _ _ _)
   | (with_reducible exact berthinglaw28_one.mono _)
   | (with_reducible exact script_Put.mono _ _)
   | (with_reducible exact script_Step_Clean.mono _ _ _ _ _ _ _ _ _ _ _ _ _ _ _ _ _ _ _ _)
   | (with_reducible exact script_Step_Right.mono _ _ _ _ _ _ _ _ _ _ _ _ _ _ _ _ _ _ _ _)
   | (with_reducible exact LeO.refl _)
   | (with_reducible exact LeO.none _)
   | (with_reducible refine LeO.ite ?_ ?_)
   | (with_reducible refine LeO.bind ?_ (fun _ => ?_))
   | exact ih0 _ _ _
   | exact ih1 _ _ _ _
   | exact ih2 _ _ _ _
   | exact ih3 _ _ _ _
   | exact berthinglaw28_one.mono _
   | exact script_Put.mono _ _
   | exact script_Step_Clean.mono _ _ _ _ _ _ _ _ _ _ _ _ _ _ _ _ _ _ _ _
   | exact script_Step_Right.mono _ _ _ _ _ _ _ _ _ _ _ _ _ _ _ _ _ _ _ _
   | exact LeO.none _
   | refine LeO.ite ?_ ?_
   | refine LeO.bind ?_ (fun _ => ?_)
  ·intro y0 y1 y2 y3
   unfold berthinglaw28_ScriptBack.l1
   repeat' first
   | (with_reducible exact ih0 _ _ _)
   | (with_reducible exact ih1 _ _ _ _)
   | (with_reducible exact ih2 _ _ _ _)
   | (with_reducible exact ih3 _ _ _ _)
   | (with_reducible exact berthinglaw28_one.mono _)
   | (with_reducible exact script_Put.mono _ _)
   | (with_reducible exact script_Step_Clean.mono _ _ _ _ _ _ _ _ _ _ _ _ _ _ _ _ _ _ _ _)
   | (with_reducible exact script_Step_Right.mono _ _ _ _ _ _ _ _ _ _ _ _ _ _ _ _ _ _ _ _)
   | (with_reducible exact LeO.refl _)
   | (with_reducible exact LeO.none _)
   | (with_reducible refine LeO.ite ?_ ?_)
   | (with_reducible refine LeO.bind ?_ (fun _ => ?_))
   | exact ih0 _ _ _
   | exact ih1 _ _ _ _
   | exact ih2 _ _ _ _
   | exact ih3 _ _ _ _
   | exact berthinglaw28_one.mono _
   | exact script_Put.mono _ _
   | exact script_Step_Clean.mono _ _ _ _ _ _ _ _ _ _ _ _ _ _ _ _ _ _ _ _
   | exact script_Step_Right.mono _ _ _ _ _ _ _ _ _ _ _ _ _ _ _ _ _ _ _ _
   | exact LeO.none _
   | refine LeO.ite ?_ ?_
   | refine LeO.bind ?_ (fun _ => ?_)
theorem berthinglaw28_ScriptBack.mono : ∀ a0 k, LeO (berthinglaw28_ScriptBack.f k a0) (berthinglaw28_ScriptBack.f (k + 1) a0) := by
 intro a0 k
 obtain ⟨ih0, ih1, ih2, ih3⟩ := berthinglaw28_ScriptBack.mono_l k
 unfold berthinglaw28_ScriptBack.f
 repeat' first
   | (with_reducible exact ih0 _ _ _)
   | (with_reducible exact ih1 _ _ _ _)
   | (with_reducible exact ih2 _ _ _ _)
   | (with_reducible exact ih3 _ _ _ _)
   | (with_reducible exact berthinglaw28_one.mono _)
   | (with_reducible exact script_Put.mono _ _)
   | (with_reducible exact script_Step_Clean.mono _ _ _ _ _ _ _ _ _ _ _ _ _ _ _ _ _ _ _ _)
   | (with_reducible exact script_Step_Right.mono _ _ _ _ _ _ _ _ _ _ _ _ _ _ _ _ _ _ _ _)
   | (with_reducible exact LeO.refl _)
   | (with_reducible exact LeO.none _)
   | (with_reducible refine LeO.ite ?_ ?_)
   | (with_reducible refine LeO.bind ?_ (fun _ => ?_))
   | exact ih0 _ _ _
   | exact ih1 _ _ _ _
   | exact ih2 _ _ _ _
   | exact ih3 _ _ _ _
   | exact berthinglaw28_one.mono _
   | exact script_Put.mono _ _
   | exact script_Step_Clean.mono _ _ _ _ _ _ _ _ _ _ _ _ _ _ _ _ _ _ _ _
   | exact script_Step_Right.mono _ _ _ _ _ _ _ _ _ _ _ _ _ _ _ _ _ _ _ _
   | exact LeO.none _
   | refine LeO.ite ?_ ?_
   | refine LeO.bind ?_ (fun _ => ?_)
set_option maxHeartbeats 8000000 in
set_option maxRecDepth 100000 in
theorem berthinglaw28_ScriptBack.calls (k : Nat) (A0 : Option Addr) (c0 : Nat) (l0 : List (S42)) (r : Bool) (w : World) (hT : Cur.ErrT w) (hr0 : Kd.C k42 w A0 l0.length l0) (hc0 : l0.length ≤ c0) (h : berthinglaw28_ScriptBack.f k l0 = some r) :
  Calls Tryd.prog 5 #[.slice A0 l0.length c0] w fun e w' => e = .returned (.bool r) ∧ Below w.heap.size w w' := by
 have hu42 := Tryd.underlying42
 have HR0 := Aside0.mk hr0
 have HC0 := Aside0.mk hc0
 clear hr0 hc0
 have HB := Aside0.mk (Below.refl w.heap.size w)
 have H : (berthinglaw28_ScriptBack.l0 k l0 ([] : List (S42)) 0) = some r := h
 clear h
 have H' := Aside0.mk H
 clear H
 go_enter Tryd.func5, Tryd.ntmps5
 go_wp2
 go_loopg [3, 4] k (fun kq v3 v4 w' => ∃ (x3_1 : List (S42)) (x4_1 : Int), v4 = .int .i64 x4_1 ∧ Aside0 (berthinglaw28_ScriptBack.l0 kq l0 x3_1 x4_1 = some r) ∧ Aside0 (kq ≤ k) ∧ Aside0 (Kd.R k42 42 w' w.heap.size (fun _ => True) v3 x3_1) ∧ Aside0 (Below w.heap.size w w'))
 case atStart => exact ⟨(([] : List (S42))), (0), (by first | rfl | (simp; done) | (simp; unfold wrap64; omega) | (simp [*]; done)), H', ⟨Nat.le_refl _⟩, ⟨by first | exact Kd.R_nil _ _ _ _ _ | exact Kd.N_nil _ _ _ _ _ | exact Kd.V_nil _ _ _ _ _ | exact Kd.Q_nil _ _ _ _ _ | exact Kd.S_nil _ _ _ _ _⟩, ⟨by repeat (first | (with_reducible first | exact HB.out | apply bA | apply bN | apply bD) | exact HB.out)⟩⟩
 case round =>
  clear H'
  obtain ⟨x3_1, x4_1, rfl, HA, HK1, HO_3, HB⟩ := hrel
  cases gk with
  | zero => exact absurd HA.out (by simp [berthinglaw28_ScriptBack.l0])
  | succ k1 =>
   have H := HA.out
   clear HA
   simp only [berthinglaw28_ScriptBack.l0] at H
   have HC2 := Aside0.mk H
   clear H
   go_upto_region 3 with (fail)
   go_cut [20] (fun v20 wc => ∃ (kq : Nat) (x20_1 : Bool), v20 = .bool x20_1 ∧ Aside0 (berthinglaw28_ScriptBack.j1 kq l0 x3_1 x4_1 x20_1 = some r) ∧ Aside0 (kq ≤ k1) ∧ Aside0 (Kd.R k42 42 wc w.heap.size (fun _ => True) u3 x3_1) ∧ Aside0 (Below w.heap.size w wc))
   case first =>
    have H := HC2.out
    clear HC2
    by_cases c3 : x4_1 < (l0.length : Int)
    ·rw [if_pos c3] at H
     have c3b0 : decide (x4_1 < (l0.length : Int)) = true := decide_eq_true c3
     clear c3
     (first | rw [c3b0] | (simp only [i64_w, i32_w]; rw [c3b0]) | skip)
     have H' := Aside0.mk H
     clear H
     go_wp2
     go_meet
     case rel => exact ⟨_, (decide (x4_1 < 40)), (by first | rfl | (simp; done) | (simp; unfold wrap64; omega) | (simp [*]; done)), H', ⟨by have := HK1.out; first | omega | exact Nat.le_refl _⟩, ⟨by (with_reducible repeat (first | apply rA | apply rN | apply rD)); exact HO_3.out⟩, ⟨by repeat (first | (with_reducible first | exact HB.out | apply bA | apply bN | apply bD) | exact HB.out)⟩⟩
    ·rw [if_neg c3] at H
     have c3b0 : decide (x4_1 < (l0.length : Int)) = false := decide_eq_false c3
     clear c3
     (first | rw [c3b0] | (simp only [i64_w, i32_w]; rw [c3b0]) | skip)
     have H' := Aside0.mk H
     clear H
     go_wp2
     go_meet
     case rel => exact ⟨_, (false), (by first | rfl | (simp; done) | (simp; unfold wrap64; omega) | (simp [*]; done)), H', ⟨by have := HK1.out; first | omega | exact Nat.le_refl _⟩, ⟨by (with_reducible repeat (first | apply rA | apply rN | apply rD)); exact HO_3.out⟩, ⟨by repeat (first | (with_reducible first | exact HB.out | apply bA | apply bN | apply bD) | exact HB.out)⟩⟩
   case rest =>
    clear HC2
    try clear p2
    try clear c3
    try clear c3b0
    obtain ⟨kq, x20_1, rfl, HA, HJ1, HO_3, HB⟩ := hcut
    cases kq with
    | zero => exact absurd HA.out (by simp [berthinglaw28_ScriptBack.j1])
    | succ kj1 =>
     have H := HA.out
     clear HA
     simp only [berthinglaw28_ScriptBack.j1] at H
     by_cases c4 : x20_1 = true
     ·subst c4
      have H1 : (if 0 ≤ x4_1 then (if x4_1 < (l0.length : Int) then ((script_Step_Right.f kj1 ((rd_T42 l0 x4_1).f0) ((rd_T42 l0 x4_1).f1.f0) ((rd_T42 l0 x4_1).f1.f1) ((rd_T42 l0 x4_1).f1.f2) ((rd_T42 l0 x4_1).f1.f3) ((rd_T42 l0 x4_1).f1.f4) ((rd_T42 l0 x4_1).f1.f5) ((rd_T42 l0 x4_1).f1.f6) ((rd_T42 l0 x4_1).f1.f7) ((rd_T42 l0 x4_1).f1.f8) ((rd_T42 l0 x4_1).f1.f9) ((rd_T42 l0 x4_1).f1.f10) ((rd_T42 l0 x4_1).f1.f11) ((rd_T42 l0 x4_1).f2) ((rd_T42 l0 x4_1).f3) ((rd_T42 l0 x4_1).f4.f0) ((rd_T42 l0 x4_1).f4.f1) ((rd_T42 l0 x4_1).f4.f2) ((rd_T42 l0 x4_1).f4.f3)).bind fun t465 => (if t465 = true then ((script_Step_Clean.f kj1 ((rd_T42 l0 x4_1).f0) ((rd_T42 l0 x4_1).f1.f0) ((rd_T42 l0 x4_1).f1.f1) ((rd_T42 l0 x4_1).f1.f2) ((rd_T42 l0 x4_1).f1.f3) ((rd_T42 l0 x4_1).f1.f4) ((rd_T42 l0 x4_1).f1.f5) ((rd_T42 l0 x4_1).f1.f6) ((rd_T42 l0 x4_1).f1.f7) ((rd_T42 l0 x4_1).f1.f8) ((rd_T42 l0 x4_1).f1.f9) ((rd_T42 l0 x4_1).f1.f10) ((rd_T42 l0 x4_1).f1.f11) ((rd_T42 l0 x4_1).f2) ((rd_T42 l0 x4_1).f3) ((rd_T42 l0 x4_1).f4.f0) ((rd_T42 l0 x4_1).f4.f1) ((rd_T42 l0 x4_1).f4.f2) ((rd_T42 l0 x4_1).f4.f3)).bind fun bt467 => (if x3_1.length < 879609302220 then (berthinglaw28_ScriptBack.l0 kj1 l0 (x3_1 ++ [(⟨bt467.1, (⟨bt467.2.1, bt467.2.2.1, bt467.2.2.2.1, bt467.2.2.2.2.1, bt467.2.2.2.2.2.1, bt467.2.2.2.2.2.2.1, bt467.2.2.2.2.2.2.2.1, bt467.2.2.2.2.2.2.2.2.1, bt467.2.2.2.2.2.2.2.2.2.1, bt467.2.2.2.2.2.2.2.2.2.2.1, bt467.2.2.2.2.2.2.2.2.2.2.2.1, bt467.2.2.2.2.2.2.2.2.2.2.2.2.1⟩ : S39), bt467.2.2.2.2.2.2.2.2.2.2.2.2.2.1, bt467.2.2.2.2.2.2.2.2.2.2.2.2.2.2.1, (⟨bt467.2.2.2.2.2.2.2.2.2.2.2.2.2.2.2.1, bt467.2.2.2.2.2.2.2.2.2.2.2.2.2.2.2.2.1, bt467.2.2.2.2.2.2.2.2.2.2.2.2.2.2.2.2.2.1, bt467.2.2.2.2.2.2.2.2.2.2.2.2.2.2.2.2.2.2⟩ : S40)⟩ : S42)]) (wrap64 (x4_1 + 1))) else (none))) else (berthinglaw28_ScriptBack.l0 kj1 l0 x3_1 (wrap64 (x4_1 + 1))))) else (none)) else (none)) = some r := by rw [if_pos rfl] at H; exact H
      clear H
      have H := H1
      clear H1
      by_cases c5 : 0 ≤ x4_1
      ·rw [if_pos c5] at H
       have c5b0 : decide (0 ≤ x4_1) = true := decide_eq_true c5
       clear c5
       by_cases c6 : x4_1 < (l0.length : Int)
       ·rw [if_pos c6] at H
        have c6b0 : decide (x4_1 < (l0.length : Int)) = true := decide_eq_true c6
        clear c6
        replace H := Option.bind_eq_some_iff.mp H
        obtain ⟨t465, A70, H⟩ := H
        replace H : (if t465 = true then ((script_Step_Clean.f kj1 ((rd_T42 l0 x4_1).f0) ((rd_T42 l0 x4_1).f1.f0) ((rd_T42 l0 x4_1).f1.f1) ((rd_T42 l0 x4_1).f1.f2) ((rd_T42 l0 x4_1).f1.f3) ((rd_T42 l0 x4_1).f1.f4) ((rd_T42 l0 x4_1).f1.f5) ((rd_T42 l0 x4_1).f1.f6) ((rd_T42 l0 x4_1).f1.f7) ((rd_T42 l0 x4_1).f1.f8) ((rd_T42 l0 x4_1).f1.f9) ((rd_T42 l0 x4_1).f1.f10) ((rd_T42 l0 x4_1).f1.f11) ((rd_T42 l0 x4_1).f2) ((rd_T42 l0 x4_1).f3) ((rd_T42 l0 x4_1).f4.f0) ((rd_T42 l0 x4_1).f4.f1) ((rd_T42 l0 x4_1).f4.f2) ((rd_T42 l0 x4_1).f4.f3)).bind fun bt467 => (if x3_1.length < 879609302220 then (berthinglaw28_ScriptBack.l0 kj1 l0 (x3_1 ++ [(⟨bt467.1, (⟨bt467.2.1, bt467.2.2.1, bt467.2.2.2.1, bt467.2.2.2.2.1, bt467.2.2.2.2.2.1, bt467.2.2.2.2.2.2.1, bt467.2.2.2.2.2.2.2.1, bt467.2.2.2.2.2.2.2.2.1, bt467.2.2.2.2.2.2.2.2.2.1, bt467.2.2.2.2.2.2.2.2.2.2.1, bt467.2.2.2.2.2.2.2.2.2.2.2.1, bt467.2.2.2.2.2.2.2.2.2.2.2.2.1⟩ : S39), bt467.2.2.2.2.2.2.2.2.2.2.2.2.2.1, bt467.2.2.2.2.2.2.2.2.2.2.2.2.2.2.1, (⟨bt467.2.2.2.2.2.2.2.2.2.2.2.2.2.2.2.1, bt467.2.2.2.2.2.2.2.2.2.2.2.2.2.2.2.2.1, bt467.2.2.2.2.2.2.2.2.2.2.2.2.2.2.2.2.2.1, bt467.2.2.2.2.2.2.2.2.2.2.2.2.2.2.2.2.2.2⟩ : S40)⟩ : S42)]) (wrap64 (x4_1 + 1))) else (none))) else (berthinglaw28_ScriptBack.l0 kj1 l0 x3_1 (wrap64 (x4_1 + 1)))) = some r := H
        have A7 := Aside0.mk A70
        clear A70
        by_cases c8 : t465 = true
        ·subst c8
         have H1 : ((script_Step_Clean.f kj1 ((rd_T42 l0 x4_1).f0) ((rd_T42 l0 x4_1).f1.f0) ((rd_T42 l0 x4_1).f1.f1) ((rd_T42 l0 x4_1).f1.f2) ((rd_T42 l0 x4_1).f1.f3) ((rd_T42 l0 x4_1).f1.f4) ((rd_T42 l0 x4_1).f1.f5) ((rd_T42 l0 x4_1).f1.f6) ((rd_T42 l0 x4_1).f1.f7) ((rd_T42 l0 x4_1).f1.f8) ((rd_T42 l0 x4_1).f1.f9) ((rd_T42 l0 x4_1).f1.f10) ((rd_T42 l0 x4_1).f1.f11) ((rd_T42 l0 x4_1).f2) ((rd_T42 l0 x4_1).f3) ((rd_T42 l0 x4_1).f4.f0) ((rd_T42 l0 x4_1).f4.f1) ((rd_T42 l0 x4_1).f4.f2) ((rd_T42 l0 x4_1).f4.f3)).bind fun bt467 => (if x3_1.length < 879609302220 then (berthinglaw28_ScriptBack.l0 kj1 l0 (x3_1 ++ [(⟨bt467.1, (⟨bt467.2.1, bt467.2.2.1, bt467.2.2.2.1, bt467.2.2.2.2.1, bt467.2.2.2.2.2.1, bt467.2.2.2.2.2.2.1, bt467.2.2.2.2.2.2.2.1, bt467.2.2.2.2.2.2.2.2.1, bt467.2.2.2.2.2.2.2.2.2.1, bt467.2.2.2.2.2.2.2.2.2.2.1, bt467.2.2.2.2.2.2.2.2.2.2.2.1, bt467.2.2.2.2.2.2.2.2.2.2.2.2.1⟩ : S39), bt467.2.2.2.2.2.2.2.2.2.2.2.2.2.1, bt467.2.2.2.2.2.2.2.2.2.2.2.2.2.2.1, (⟨bt467.2.2.2.2.2.2.2.2.2.2.2.2.2.2.2.1, bt467.2.2.2.2.2.2.2.2.2.2.2.2.2.2.2.2.1, bt467.2.2.2.2.2.2.2.2.2.2.2.2.2.2.2.2.2.1, bt467.2.2.2.2.2.2.2.2.2.2.2.2.2.2.2.2.2.2⟩ : S40)⟩ : S42)]) (wrap64 (x4_1 + 1))) else (none))) = some r := by rw [if_pos rfl] at H; exact H
         clear H
         have H := H1
         clear H1
         replace H := Option.bind_eq_some_iff.mp H
         obtain ⟨⟨t467, t468, t469, t470, t471, t472, t473, t474, t475, t476, t477, t478, t479, t480, t481, t482, t483, t484, t485⟩, A90, H⟩ := H
         replace H : (if x3_1.length < 879609302220 then (berthinglaw28_ScriptBack.l0 kj1 l0 (x3_1 ++ [(⟨t467, (⟨t468, t469, t470, t471, t472, t473, t474, t475, t476, t477, t478, t479⟩ : S39), t480, t481, (⟨t482, t483, t484, t485⟩ : S40)⟩ : S42)]) (wrap64 (x4_1 + 1))) else (none)) = some r := H
         have A9 := Aside0.mk A90
         clear A90
         by_cases c10 : x3_1.length < 879609302220
         ·rw [if_pos c10] at H
          have LMc10 := Aside0.mk c10
          clear c10
          obtain ⟨y486, hy486⟩ : ∃ y_ : List (S42), y_ = (x3_1 ++ [(⟨t467, (⟨t468, t469, t470, t471, t472, t473, t474, t475, t476, t477, t478, t479⟩ : S39), t480, t481, (⟨t482, t483, t484, t485⟩ : S40)⟩ : S42)]) := ⟨_, rfl⟩
          replace H : (berthinglaw28_ScriptBack.l0 kj1 l0 y486 (wrap64 (x4_1 + 1))) = some r := by first | (rw [hy486]; with_reducible exact H) | (have H2_ := (Option.bind_some _ _).symm.trans H; rw [hy486]; with_reducible exact H2_) | (have H2_ := (Option.bind_some _ _).symm.trans H; with_reducible exact H2_) | with_reducible exact H | (rw [hy486]; exact H) | exact H
          have Ny486 := Aside0.mk hy486
          clear hy486
          have H' := Aside0.mk H
          clear H
          have p464 : 0 ≤ (x4_1 : Int) := of_decide_eq_true (by first | (with_reducible assumption) | assumption)
          have q464 : x4_1 < (l0.length : Int) := of_decide_eq_true (by first | (with_reducible assumption) | assumption)
          obtain ⟨ad464, e464, hx464_0, hx464_1, hx464_2, hx464_3, hx464_4, hx464_5, hx464_6, hx464_7, hx464_8, hx464_9, hx464_10, hx464_11, hx464_12, hx464_13, hx464_14, hx464_15, hx464_16, hx464_17, hx464_18⟩ := at_T42 HR0.out x4_1 p464 q464
          cases e464
          replace hx464_0 := (HB.out.cell (World.block_lt_of_cell? w _ hx464_0)).trans hx464_0
          replace hx464_1 := (HB.out.cell (World.block_lt_of_cell? w _ hx464_1)).trans hx464_1
          replace hx464_2 := (HB.out.cell (World.block_lt_of_cell? w _ hx464_2)).trans hx464_2
          replace hx464_3 := (HB.out.cell (World.block_lt_of_cell? w _ hx464_3)).trans hx464_3
          replace hx464_4 := (HB.out.cell (World.block_lt_of_cell? w _ hx464_4)).trans hx464_4
          replace hx464_5 := (HB.out.cell (World.block_lt_of_cell? w _ hx464_5)).trans hx464_5
          replace hx464_6 := (HB.out.cell (World.block_lt_of_cell? w _ hx464_6)).trans hx464_6
          replace hx464_7 := (HB.out.cell (World.block_lt_of_cell? w _ hx464_7)).trans hx464_7
          replace hx464_8 := (HB.out.cell (World.block_lt_of_cell? w _ hx464_8)).trans hx464_8
          replace hx464_9 := (HB.out.cell (World.block_lt_of_cell? w _ hx464_9)).trans hx464_9
          replace hx464_10 := (HB.out.cell (World.block_lt_of_cell? w _ hx464_10)).trans hx464_10
          replace hx464_11 := (HB.out.cell (World.block_lt_of_cell? w _ hx464_11)).trans hx464_11
          replace hx464_12 := (HB.out.cell (World.block_lt_of_cell? w _ hx464_12)).trans hx464_12
          replace hx464_13 := (HB.out.cell (World.block_lt_of_cell? w _ hx464_13)).trans hx464_13
          replace hx464_14 := (HB.out.cell (World.block_lt_of_cell? w _ hx464_14)).trans hx464_14
          replace hx464_15 := (HB.out.cell (World.block_lt_of_cell? w _ hx464_15)).trans hx464_15
          replace hx464_16 := (HB.out.cell (World.block_lt_of_cell? w _ hx464_16)).trans hx464_16
          replace hx464_17 := (HB.out.cell (World.block_lt_of_cell? w _ hx464_17)).trans hx464_17
          replace hx464_18 := (HB.out.cell (World.block_lt_of_cell? w _ hx464_18)).trans hx464_18
          replace p464 := eq_true p464
          replace q464 := eq_true q464
          go_wp2_with (first | (go_at_call 10; (with_reducible refine (script_Step_Right.calls kj1 ((rd_T42 l0 x4_1).f0) ((rd_T42 l0 x4_1).f1.f0) ((rd_T42 l0 x4_1).f1.f1) ((rd_T42 l0 x4_1).f1.f2) ((rd_T42 l0 x4_1).f1.f3) ((rd_T42 l0 x4_1).f1.f4) ((rd_T42 l0 x4_1).f1.f5) ((rd_T42 l0 x4_1).f1.f6) ((rd_T42 l0 x4_1).f1.f7) ((rd_T42 l0 x4_1).f1.f8) ((rd_T42 l0 x4_1).f1.f9) ((rd_T42 l0 x4_1).f1.f10) ((rd_T42 l0 x4_1).f1.f11) ((rd_T42 l0 x4_1).f2) ((rd_T42 l0 x4_1).f3) ((rd_T42 l0 x4_1).f4.f0) ((rd_T42 l0 x4_1).f4.f1) ((rd_T42 l0 x4_1).f4.f2) ((rd_T42 l0 x4_1).f4.f3) true _ A7.out).mono ?_); rintro e w11 ⟨rfl, hb⟩; have n0_ := Aside0.mk (Kd.R_below (by (with_reducible repeat (first | apply rA | apply rN | apply rD)); exact HO_3.out) hb); have n1_ := Aside0.mk (below_step (by repeat (first | (with_reducible first | exact HB.out | apply bA | apply bN | apply bD) | exact HB.out)) hb); clear HO_3; clear HB; have HO_3 := n0_; have HB := n1_; clear n0_ n1_; (try clear hb); (try clear hb2); (try clear hk); (try clear hi); have p466 : 0 ≤ (x4_1 : Int) := of_decide_eq_true (by first | (with_reducible assumption) | assumption); have q466 : x4_1 < (l0.length : Int) := of_decide_eq_true (by first | (with_reducible assumption) | assumption); obtain ⟨ad466, e466, hx466_0, hx466_1, hx466_2, hx466_3, hx466_4, hx466_5, hx466_6, hx466_7, hx466_8, hx466_9, hx466_10, hx466_11, hx466_12, hx466_13, hx466_14, hx466_15, hx466_16, hx466_17, hx466_18⟩ := at_T42 HR0.out x4_1 p466 q466; obtain rfl : ad464 = ad466 := (by injection e466); replace hx466_0 := (HB.out.cell (World.block_lt_of_cell? w _ hx466_0)).trans hx466_0; replace hx466_1 := (HB.out.cell (World.block_lt_of_cell? w _ hx466_1)).trans hx466_1; replace hx466_2 := (HB.out.cell (World.block_lt_of_cell? w _ hx466_2)).trans hx466_2; replace hx466_3 := (HB.out.cell (World.block_lt_of_cell? w _ hx466_3)).trans hx466_3; replace hx466_4 := (HB.out.cell (World.block_lt_of_cell? w _ hx466_4)).trans hx466_4; replace hx466_5 := (HB.out.cell (World.block_lt_of_cell? w _ hx466_5)).trans hx466_5; replace hx466_6 := (HB.out.cell (World.block_lt_of_cell? w _ hx466_6)).trans hx466_6; replace hx466_7 := (HB.out.cell (World.block_lt_of_cell? w _ hx466_7)).trans hx466_7; replace hx466_8 := (HB.out.cell (World.block_lt_of_cell? w _ hx466_8)).trans hx466_8; replace hx466_9 := (HB.out.cell (World.block_lt_of_cell? w _ hx466_9)).trans hx466_9; replace hx466_10 := (HB.out.cell (World.block_lt_of_cell? w _ hx466_10)).trans hx466_10; replace hx466_11 := (HB.out.cell (World.block_lt_of_cell? w _ hx466_11)).trans hx466_11; replace hx466_12 := (HB.out.cell (World.block_lt_of_cell? w _ hx466_12)).trans hx466_12; replace hx466_13 := (HB.out.cell (World.block_lt_of_cell? w _ hx466_13)).trans hx466_13; replace hx466_14 := (HB.out.cell (World.block_lt_of_cell? w _ hx466_14)).trans hx466_14; replace hx466_15 := (HB.out.cell (World.block_lt_of_cell? w _ hx466_15)).trans hx466_15; replace hx466_16 := (HB.out.cell (World.block_lt_of_cell? w _ hx466_16)).trans hx466_16; replace hx466_17 := (HB.out.cell (World.block_lt_of_cell? w _ hx466_17)).trans hx466_17; replace hx466_18 := (HB.out.cell (World.block_lt_of_cell? w _ hx466_18)).trans hx466_18; replace p466 := eq_true p466; replace q466 := eq_true q466) | (go_at_call 12; (with_reducible refine (script_Step_Clean.calls kj1 ((rd_T42 l0 x4_1).f0) ((rd_T42 l0 x4_1).f1.f0) ((rd_T42 l0 x4_1).f1.f1) ((rd_T42 l0 x4_1).f1.f2) ((rd_T42 l0 x4_1).f1.f3) ((rd_T42 l0 x4_1).f1.f4) ((rd_T42 l0 x4_1).f1.f5) ((rd_T42 l0 x4_1).f1.f6) ((rd_T42 l0 x4_1).f1.f7) ((rd_T42 l0 x4_1).f1.f8) ((rd_T42 l0 x4_1).f1.f9) ((rd_T42 l0 x4_1).f1.f10) ((rd_T42 l0 x4_1).f1.f11) ((rd_T42 l0 x4_1).f2) ((rd_T42 l0 x4_1).f3) ((rd_T42 l0 x4_1).f4.f0) ((rd_T42 l0 x4_1).f4.f1) ((rd_T42 l0 x4_1).f4.f2) ((rd_T42 l0 x4_1).f4.f3) t467 t468 t469 t470 t471 t472 t473 t474 t475 t476 t477 t478 t479 t480 t481 t482 t483 t484 t485 _ A9.out).mono ?_); rintro e w12 ⟨rfl, hb⟩; have n0_ := Aside0.mk (Kd.R_below (by (with_reducible repeat (first | apply rA | apply rN | apply rD)); exact HO_3.out) hb); have n1_ := Aside0.mk (below_step (by repeat (first | (with_reducible first | exact HB.out | apply bA | apply bN | apply bD) | exact HB.out)) hb); clear HO_3; clear HB; have HO_3 := n0_; have HB := n1_; clear n0_ n1_; (try clear hb); (try clear hb2); (try clear hk); (try clear hi)) | ((with_reducible refine gate_builtin (b := .append) (xs := #[.tmp 28, .tmp 34]) rfl ?_); (try (refine gate_guard (by rfl) ?_; dsimp only)); at_builtin; refine Kd.R_append k42 (w0 := w) w.heap.size rfl (.tmp 28) (.tmp 34) 23 42 (.agg #[(.int .i64 0), (.int .i64 0), (.int .i64 0), (.int .i64 0), (.int .i64 0), (.int .i64 0), (.int .i64 0), (.int .i64 0), (.int .i64 0), (.int .i64 0), (.int .i64 0), (.int .i64 0), (.bool false), (.string ⟨#[]⟩), (.int .i64 0), (.int .i64 0), (.int .i64 0), (.int .i64 0), (.int .i64 0)]) 160 rfl Tryd.underlying23 info42 rfl (by decide) (by omega) u3 x3_1 (⟨t467, (⟨t468, t469, t470, t471, t472, t473, t474, t475, t476, t477, t478, t479⟩ : S39), t480, t481, (⟨t482, t483, t484, t485⟩ : S40)⟩ : S42) [.int .i64 t467, .int .i64 t468, .int .i64 t469, .int .i64 t470, .int .i64 t471, .int .i64 t472, .int .i64 t473, .int .i64 t474, .int .i64 t475, .int .i64 t476, .int .i64 t477, .int .i64 t478, .bool t479, .string t480, .int .i64 t481, .int .i64 t482, .int .i64 t483, .int .i64 t484, .int .i64 t485] (fun _ => True) (fun _ => False) rfl rfl ?aP (fun _ hk => hk.elim) ?aF ?aO ?aB ?aS ?aL ?_; (case aP => exact k42_mkM _ _ _ (⟨t467, (⟨t468, t469, t470, t471, t472, t473, t474, t475, t476, t477, t478, t479⟩ : S39), t480, t481, (⟨t482, t483, t484, t485⟩ : S40)⟩ : S42)); (case aB => exact (by repeat (first | (with_reducible first | exact HB.out | apply bA | apply bN | apply bD) | exact HB.out))); (case aF => exact (fun _ _ => trivial)); (case aO => exact (by (with_reducible repeat (first | apply rA | apply rN | apply rD)); exact HO_3.out)); (case aS => exact (below_size (by repeat (first | (with_reducible first | exact HB.out | apply bA | apply bN | apply bD) | exact HB.out)))); (case aL => have := LMc10.out; omega); intro v487 w13 ho hb hg hat; rw [← Ny486.out] at ho; have n0_ := Aside0.mk (hb); have n1_ := Aside0.mk (ho); clear HB; clear HO_3; have HB := n0_; have HO488 := n1_; clear n0_ n1_; clear ho hb hg hat))
          go_roundg kj1
          case measure => have := HK1.out; have := HJ1.out; omega
          case rel => exact ⟨(y486), (wrap64 (x4_1 + 1)), (by first | rfl | (simp; done) | (simp; unfold wrap64; omega) | (simp [*]; done)), H', ⟨by have := HK1.out; have := HJ1.out; omega⟩, ⟨by (with_reducible repeat (first | apply rA | apply rN | apply rD)); exact HO488.out⟩, ⟨by repeat (first | (with_reducible first | exact HB.out | apply bA | apply bN | apply bD) | exact HB.out)⟩⟩
         ·rw [if_neg c10] at H
          exact absurd H (by simp)
        ·replace c8 := Bool.eq_false_iff.mpr c8
         subst c8
         have H1 : (berthinglaw28_ScriptBack.l0 kj1 l0 x3_1 (wrap64 (x4_1 + 1))) = some r := by rw [if_neg (show ¬ (false = true) by decide)] at H; exact H
         clear H
         have H := H1
         clear H1
         have H' := Aside0.mk H
         clear H
         have p464 : 0 ≤ (x4_1 : Int) := of_decide_eq_true (by first | (with_reducible assumption) | assumption)
         have q464 : x4_1 < (l0.length : Int) := of_decide_eq_true (by first | (with_reducible assumption) | assumption)
         obtain ⟨ad464, e464, hx464_0, hx464_1, hx464_2, hx464_3, hx464_4, hx464_5, hx464_6, hx464_7, hx464_8, hx464_9, hx464_10, hx464_11, hx464_12, hx464_13, hx464_14, hx464_15, hx464_16, hx464_17, hx464_18⟩ := at_T42 HR0.out x4_1 p464 q464
         cases e464
         replace hx464_0 := (HB.out.cell (World.block_lt_of_cell? w _ hx464_0)).trans hx464_0
         replace hx464_1 := (HB.out.cell (World.block_lt_of_cell? w _ hx464_1)).trans hx464_1
         replace hx464_2 := (HB.out.cell (World.block_lt_of_cell? w _ hx464_2)).trans hx464_2
         replace hx464_3 := (HB.out.cell (World.block_lt_of_cell? w _ hx464_3)).trans hx464_3
         replace hx464_4 := (HB.out.cell (World.block_lt_of_cell? w _ hx464_4)).trans hx464_4
         replace hx464_5 := (HB.out.cell (World.block_lt_of_cell? w _ hx464_5)).trans hx464_5
         replace hx464_6 := (HB.out.cell (World.block_lt_of_cell? w _ hx464_6)).trans hx464_6
         replace hx464_7 := (HB.out.cell (World.block_lt_of_cell? w _ hx464_7)).trans hx464_7
         replace hx464_8 := (HB.out.cell (World.block_lt_of_cell? w _ hx464_8)).trans hx464_8
         replace hx464_9 := (HB.out.cell (World.block_lt_of_cell? w _ hx464_9)).trans hx464_9
         replace hx464_10 := (HB.out.cell (World.block_lt_of_cell? w _ hx464_10)).trans hx464_10
         replace hx464_11 := (HB.out.cell (World.block_lt_of_cell? w _ hx464_11)).trans hx464_11
         replace hx464_12 := (HB.out.cell (World.block_lt_of_cell? w _ hx464_12)).trans hx464_12
         replace hx464_13 := (HB.out.cell (World.block_lt_of_cell? w _ hx464_13)).trans hx464_13
         replace hx464_14 := (HB.out.cell (World.block_lt_of_cell? w _ hx464_14)).trans hx464_14
         replace hx464_15 := (HB.out.cell (World.block_lt_of_cell? w _ hx464_15)).trans hx464_15
         replace hx464_16 := (HB.out.cell (World.block_lt_of_cell? w _ hx464_16)).trans hx464_16
         replace hx464_17 := (HB.out.cell (World.block_lt_of_cell? w _ hx464_17)).trans hx464_17
         replace hx464_18 := (HB.out.cell (World.block_lt_of_cell? w _ hx464_18)).trans hx464_18
         replace p464 := eq_true p464
         replace q464 := eq_true q464
         go_wp2_with (first | (go_at_call 10; (with_reducible refine (script_Step_Right.calls kj1 ((rd_T42 l0 x4_1).f0) ((rd_T42 l0 x4_1).f1.f0) ((rd_T42 l0 x4_1).f1.f1) ((rd_T42 l0 x4_1).f1.f2) ((rd_T42 l0 x4_1).f1.f3) ((rd_T42 l0 x4_1).f1.f4) ((rd_T42 l0 x4_1).f1.f5) ((rd_T42 l0 x4_1).f1.f6) ((rd_T42 l0 x4_1).f1.f7) ((rd_T42 l0 x4_1).f1.f8) ((rd_T42 l0 x4_1).f1.f9) ((rd_T42 l0 x4_1).f1.f10) ((rd_T42 l0 x4_1).f1.f11) ((rd_T42 l0 x4_1).f2) ((rd_T42 l0 x4_1).f3) ((rd_T42 l0 x4_1).f4.f0) ((rd_T42 l0 x4_1).f4.f1) ((rd_T42 l0 x4_1).f4.f2) ((rd_T42 l0 x4_1).f4.f3) false _ A7.out).mono ?_); rintro e w14 ⟨rfl, hb⟩; have n0_ := Aside0.mk (Kd.R_below (by (with_reducible repeat (first | apply rA | apply rN | apply rD)); exact HO_3.out) hb); have n1_ := Aside0.mk (below_step (by repeat (first | (with_reducible first | exact HB.out | apply bA | apply bN | apply bD) | exact HB.out)) hb); clear HO_3; clear HB; have HO_3 := n0_; have HB := n1_; clear n0_ n1_; (try clear hb); (try clear hb2); (try clear hk); (try clear hi)))
         go_roundg kj1
         case measure => have := HK1.out; have := HJ1.out; omega
         case rel => exact ⟨(x3_1), (wrap64 (x4_1 + 1)), (by first | rfl | (simp; done) | (simp; unfold wrap64; omega) | (simp [*]; done)), H', ⟨by have := HK1.out; have := HJ1.out; omega⟩, ⟨by (with_reducible repeat (first | apply rA | apply rN | apply rD)); exact HO_3.out⟩, ⟨by repeat (first | (with_reducible first | exact HB.out | apply bA | apply bN | apply bD) | exact HB.out)⟩⟩
       ·rw [if_neg c6] at H
        exact absurd H (by simp)
      ·rw [if_neg c5] at H
       exact absurd H (by simp)
     ·replace c4 := Bool.eq_false_iff.mpr c4
      subst c4
      have H1 : ((script_Put.f kj1 x3_1).bind fun t489 => ((script_Read.f t489).bind fun bt492 => (if bt492.2 = 0 then (berthinglaw28_ScriptBack.j2 kj1 x3_1 t489 bt492.1 ((bt492.1.length : Int) != (x3_1.length : Int))) else (berthinglaw28_ScriptBack.j2 kj1 x3_1 t489 bt492.1 true)))) = some r := by rw [if_neg (show ¬ (false = true) by decide)] at H; exact H
      clear H
      have H := H1
      clear H1
      replace H := Option.bind_eq_some_iff.mp H
      obtain ⟨t489, A150, H⟩ := H
      replace H : ((script_Read.f t489).bind fun bt492 => (if bt492.2 = 0 then (berthinglaw28_ScriptBack.j2 kj1 x3_1 t489 bt492.1 ((bt492.1.length : Int) != (x3_1.length : Int))) else (berthinglaw28_ScriptBack.j2 kj1 x3_1 t489 bt492.1 true))) = some r := H
      have A15 := Aside0.mk A150
      clear A150
      replace H := Option.bind_eq_some_iff.mp H
      obtain ⟨⟨t492, t493⟩, A160, H⟩ := H
      replace H : (if t493 = 0 then (berthinglaw28_ScriptBack.j2 kj1 x3_1 t489 t492 ((t492.length : Int) != (x3_1.length : Int))) else (berthinglaw28_ScriptBack.j2 kj1 x3_1 t489 t492 true)) = some r := H
      have A16 := Aside0.mk A160
      clear A160
      have HC17 := Aside0.mk H
      clear H
      obtain ⟨Ao18, co18, eo18⟩ := Kd.R_slice HO_3.out
      subst eo18
      go_upto_region 9 with (first | (go_at_call 14; (with_reducible refine (script_Put.calls kj1 _ _ x3_1 t489 _ ?side1 ?side2 A15.out).mono ?_); (case side1 => repeat (first | exact (Kd.R_reads' HO_3.out).2.2 | (with_reducible apply cA) | (with_reducible apply cN) | (with_reducible apply cD))); (case side2 => exact (Kd.R_reads' HO_3.out).2.1); rintro e w19 ⟨v490, rfl, ho0, hb⟩; have n0_ := Aside0.mk (Kd.R_below (by (with_reducible repeat (first | apply rA | apply rN | apply rD)); exact HO_3.out) hb); have n1_ := Aside0.mk (Kd.R_lower ho0 (below_size (by repeat (first | (with_reducible first | exact HB.out | apply bA | apply bN | apply bD) | exact HB.out)))); have n2_ := Aside0.mk (below_step (by repeat (first | (with_reducible first | exact HB.out | apply bA | apply bN | apply bD) | exact HB.out)) hb); clear HO_3; clear HB; have HO_3 := n0_; have HO491 := n1_; have HB := n2_; clear n0_ n1_ n2_; (try clear hb); (try clear hb2); (try clear hk); (try clear hi); (try clear ho0); obtain ⟨Ao20, co20, eo20⟩ := Kd.R_slice HO491.out; subst eo20) | (go_at_call 6; (with_reducible refine (script_Read.calls _ _ t489 t492 t493 _ (Cur.ErrT.go (by repeat (first | (with_reducible first | exact HB.out | apply bA | apply bN | apply bD) | exact HB.out)) hT) ?side1 ?side2 A16.out).mono ?_); (case side1 => repeat (first | exact (Kd.R_reads' HO491.out).2.2 | (with_reducible apply cA) | (with_reducible apply cN) | (with_reducible apply cD))); (case side2 => exact (Kd.R_reads' HO491.out).2.1); rintro e w21 ⟨v494, rfl, ho0, hb⟩; have n0_ := Aside0.mk (Kd.R_elder' (by (with_reducible repeat (first | apply rA | apply rN | apply rD)); exact HO_3.out) (Kd.R_base ho0) hb); have n1_ := Aside0.mk (Kd.R_below (by (with_reducible repeat (first | apply rA | apply rN | apply rD)); exact HO491.out) hb); have n2_ := Aside0.mk (Kd.R_lower (Kd.R_new' ho0 (Kd.R_lt (by (with_reducible repeat (first | apply rA | apply rN | apply rD)); exact HO_3.out))) (below_size (by repeat (first | (with_reducible first | exact HB.out | apply bA | apply bN | apply bD) | exact HB.out)))); have n3_ := Aside0.mk (below_step (by repeat (first | (with_reducible first | exact HB.out | apply bA | apply bN | apply bD) | exact HB.out)) hb); clear HO_3; clear HO491; clear HB; have HO_3 := n0_; have HO491 := n1_; have HO495 := n2_; have HB := n3_; clear n0_ n1_ n2_ n3_; (try clear hb); (try clear hb2); (try clear hk); (try clear hi); (try clear ho0)))
      (try simp only [Act.put, List.setIfInBounds_toArray, List.set_cons_zero, List.set_cons_succ])
      go_cut [51] (fun v51 wc => ∃ (kq : Nat) (x51_16 : Bool), v51 = .bool x51_16 ∧ Aside0 (berthinglaw28_ScriptBack.j2 kq x3_1 t489 t492 x51_16 = some r) ∧ Aside0 (kq ≤ kj1) ∧ Aside0 (Kd.R k42 42 wc w.heap.size (fun k_ => some k_ ≠ (v494 : Value).ownBlock) (.slice Ao18 x3_1.length co18) x3_1) ∧ Aside0 (Kd.R (Kd.int .u8) 5 wc w.heap.size (fun _ => True) (.slice Ao20 t489.length co20) t489) ∧ Aside0 (Kd.R k42 42 wc w.heap.size (fun k_ => some k_ ≠ ((.slice Ao18 x3_1.length co18) : Value).ownBlock) v494 t492) ∧ Aside0 (Below w.heap.size w wc))
      case first =>
       have H := HC17.out
       clear HC17
       by_cases c22 : t493 = 0
       ·rw [if_pos c22] at H
        have c22b0 : (t493 == 0) = true := beq_iff_eq.mpr c22
        have c22b1 : (t493 != 0) = false := bne_eq_false_iff_eq.mpr c22
        clear c22
        (first | rw [c22b0] | (simp only [i64_w, i32_w]; rw [c22b0]) | skip)
        have H' := Aside0.mk H
        clear H
        obtain ⟨Ao23, co23, eo23⟩ := Kd.R_slice HO495.out
        subst eo23
        go_wp2
        go_meet
        case rel => exact ⟨_, (((t492.length : Int) != (x3_1.length : Int))), (by first | rfl | (simp; done) | (simp; unfold wrap64; omega) | (simp [*]; done)), H', ⟨by have := HK1.out; have := HJ1.out; first | omega | exact Nat.le_refl _⟩, ⟨by (with_reducible repeat (first | apply rA | apply rN | apply rD)); exact Kd.R_mono HO_3.out (fun _ hk => hk.2)⟩, ⟨by (with_reducible repeat (first | apply rA | apply rN | apply rD)); exact HO491.out⟩, ⟨by (with_reducible repeat (first | apply rA | apply rN | apply rD)); exact Kd.R_mono HO495.out (fun _ hk => hk.2)⟩, ⟨by repeat (first | (with_reducible first | exact HB.out | apply bA | apply bN | apply bD) | exact HB.out)⟩⟩
       ·rw [if_neg c22] at H
        have c22b0 : (t493 == 0) = false := beq_eq_false_iff_ne.mpr c22
        have c22b1 : (t493 != 0) = true := bne_iff_ne.mpr c22
        (first | rw [c22b0] | (simp only [i64_w, i32_w]; rw [c22b0]) | skip)
        have H' := Aside0.mk H
        clear H
        go_wp2
        go_meet
        case rel => exact ⟨_, (true), (by first | rfl | (simp; done) | (simp; unfold wrap64; omega) | (simp [*]; done)), H', ⟨by have := HK1.out; have := HJ1.out; first | omega | exact Nat.le_refl _⟩, ⟨by (with_reducible repeat (first | apply rA | apply rN | apply rD)); exact Kd.R_mono HO_3.out (fun _ hk => hk.2)⟩, ⟨by (with_reducible repeat (first | apply rA | apply rN | apply rD)); exact HO491.out⟩, ⟨by (with_reducible repeat (first | apply rA | apply rN | apply rD)); exact Kd.R_mono HO495.out (fun _ hk => hk.2)⟩, ⟨by repeat (first | (with_reducible first | exact HB.out | apply bA | apply bN | apply bD) | exact HB.out)⟩⟩
      case rest =>
       clear HC17
       try clear c1
       try clear c2
       try clear p2
       try clear c3
       try clear c3b0
       try clear c4
       try clear p4
       try clear q4
       try clear hx4
       try clear c5
       try clear c5b0
       try clear c6
       try clear c6b0
       try clear p6
       try clear c8
       try clear c10
       try clear c22
       try clear c22b0
       try clear c22b1
       try clear hx464_0
       try clear hx464_1
       try clear hx464_10
       try clear hx464_11
       try clear hx464_12
       try clear hx464_13
       try clear hx464_14
       try clear hx464_15
       try clear hx464_16
       try clear hx464_17
       try clear hx464_18
       try clear hx464_2
       try clear hx464_3
       try clear hx464_4
       try clear hx464_5
       try clear hx464_6
       try clear hx464_7
       try clear hx464_8
       try clear hx464_9
       try clear hx466_0
       try clear hx466_1
       try clear hx466_10
       try clear hx466_11
       try clear hx466_12
       try clear hx466_13
       try clear hx466_14
       try clear hx466_15
       try clear hx466_16
       try clear hx466_17
       try clear hx466_18
       try clear hx466_2
       try clear hx466_3
       try clear hx466_4
       try clear hx466_5
       try clear hx466_6
       try clear hx466_7
       try clear hx466_8
       try clear hx466_9
       try clear p2
       try clear p464
       try clear p466
       try clear q464
       try clear q466
       obtain ⟨kq, x51_16, rfl, HA, HJ16, HO_3, HO_5, HO_6, HB⟩ := hcut
       cases kq with
       | zero => exact absurd HA.out (by simp [berthinglaw28_ScriptBack.j2])
       | succ kj16 =>
        have H := HA.out
        clear HA
        simp only [berthinglaw28_ScriptBack.j2] at H
        by_cases c24 : x51_16 = true
        ·subst c24
         have H1 : (none) = some r := by rw [if_pos rfl] at H; exact H
         clear H
         have H := H1
         clear H1
         exact absurd H (by simp)
        ·replace c24 := Bool.eq_false_iff.mpr c24
         subst c24
         have H1 : (berthinglaw28_ScriptBack.l1 kj16 x3_1 t489 t492 0) = some r := by rw [if_neg (show ¬ (false = true) by decide)] at H; exact H
         clear H
         have H := H1
         clear H1
         have H' := Aside0.mk H
         clear H
         go_wp2
         go_loopg [8] kj16 (fun kq v8 w' => ∃ (x8_4 : Int), v8 = .int .i64 x8_4 ∧ Aside0 (berthinglaw28_ScriptBack.l1 kq x3_1 t489 t492 x8_4 = some r) ∧ Aside0 (kq ≤ kj16) ∧ Aside0 (Kd.R k42 42 w' w.heap.size (fun k_ => some k_ ≠ (v494 : Value).ownBlock) (.slice Ao18 x3_1.length co18) x3_1) ∧ Aside0 (Kd.R (Kd.int .u8) 5 w' w.heap.size (fun _ => True) (.slice Ao20 t489.length co20) t489) ∧ Aside0 (Kd.R k42 42 w' w.heap.size (fun k_ => some k_ ≠ ((.slice Ao18 x3_1.length co18) : Value).ownBlock) v494 t492) ∧ Aside0 (Below w.heap.size w w'))
         case atStart => exact ⟨(0), (by first | rfl | (simp; done) | (simp; unfold wrap64; omega) | (simp [*]; done)), H', ⟨Nat.le_refl _⟩, ⟨by (with_reducible repeat (first | apply rA | apply rN | apply rD)); exact HO_3.out⟩, ⟨by (with_reducible repeat (first | apply rA | apply rN | apply rD)); exact HO_5.out⟩, ⟨by (with_reducible repeat (first | apply rA | apply rN | apply rD)); exact HO_6.out⟩, ⟨by repeat (first | (with_reducible first | exact HB.out | apply bA | apply bN | apply bD) | exact HB.out)⟩⟩
         case round =>
          clear H'
          try clear c1
          try clear c2
          try clear p2
          try clear c3
          try clear c3b0
          try clear c4
          try clear p4
          try clear q4
          try clear hx4
          try clear c5
          try clear c5b0
          try clear c6
          try clear c6b0
          try clear p6
          try clear c8
          try clear c10
          try clear c22
          try clear c22b0
          try clear c22b1
          try clear c24
          try clear hx464_0
          try clear hx464_1
          try clear hx464_10
          try clear hx464_11
          try clear hx464_12
          try clear hx464_13
          try clear hx464_14
          try clear hx464_15
          try clear hx464_16
          try clear hx464_17
          try clear hx464_18
          try clear hx464_2
          try clear hx464_3
          try clear hx464_4
          try clear hx464_5
          try clear hx464_6
          try clear hx464_7
          try clear hx464_8
          try clear hx464_9
          try clear hx466_0
          try clear hx466_1
          try clear hx466_10
          try clear hx466_11
          try clear hx466_12
          try clear hx466_13
          try clear hx466_14
          try clear hx466_15
          try clear hx466_16
          try clear hx466_17
          try clear hx466_18
          try clear hx466_2
          try clear hx466_3
          try clear hx466_4
          try clear hx466_5
          try clear hx466_6
          try clear hx466_7
          try clear hx466_8
          try clear hx466_9
          try clear p2
          try clear p4
          try clear p464
          try clear p466
          try clear p6
          try clear q4
          try clear q464
          try clear q466
          obtain ⟨x8_4, rfl, HA, HK4, HO_3, HO_5, HO_6, HB⟩ := hrel
          cases gk with
          | zero => exact absurd HA.out (by simp [berthinglaw28_ScriptBack.l1])
          | succ k4 =>
           have H := HA.out
           clear HA
           simp only [berthinglaw28_ScriptBack.l1] at H
           by_cases c25 : x8_4 < (t492.length : Int)
           ·rw [if_pos c25] at H
            have c25b0 : decide (x8_4 < (t492.length : Int)) = true := decide_eq_true c25
            clear c25
            by_cases c26 : 0 ≤ x8_4
            ·rw [if_pos c26] at H
             have c26b0 : decide (0 ≤ x8_4) = true := decide_eq_true c26
             clear c26
             by_cases c27 : x8_4 < (x3_1.length : Int)
             ·rw [if_pos c27] at H
              have c27b0 : decide (x8_4 < (x3_1.length : Int)) = true := decide_eq_true c27
              clear c27
              by_cases c28 : (!(((rd_T42 t492 x8_4).f0) == ((rd_T42 x3_1 x8_4).f0)) || ((!(((rd_T42 t492 x8_4).f1.f0) == ((rd_T42 x3_1 x8_4).f1.f0)) || (!(((rd_T42 t492 x8_4).f1.f1) == ((rd_T42 x3_1 x8_4).f1.f1)) || (!(((rd_T42 t492 x8_4).f1.f2) == ((rd_T42 x3_1 x8_4).f1.f2)) || (!(((rd_T42 t492 x8_4).f1.f3) == ((rd_T42 x3_1 x8_4).f1.f3)) || (!(((rd_T42 t492 x8_4).f1.f4) == ((rd_T42 x3_1 x8_4).f1.f4)) || (!(((rd_T42 t492 x8_4).f1.f5) == ((rd_T42 x3_1 x8_4).f1.f5)) || (!(((rd_T42 t492 x8_4).f1.f6) == ((rd_T42 x3_1 x8_4).f1.f6)) || (!(((rd_T42 t492 x8_4).f1.f7) == ((rd_T42 x3_1 x8_4).f1.f7)) || (!(((rd_T42 t492 x8_4).f1.f8) == ((rd_T42 x3_1 x8_4).f1.f8)) || (!(((rd_T42 t492 x8_4).f1.f9) == ((rd_T42 x3_1 x8_4).f1.f9)) || (!(((rd_T42 t492 x8_4).f1.f10) == ((rd_T42 x3_1 x8_4).f1.f10)) || (!(((rd_T42 t492 x8_4).f1.f11) == ((rd_T42 x3_1 x8_4).f1.f11)))))))))))))) || (!((((rd_T42 t492 x8_4).f2).toList) == (((rd_T42 x3_1 x8_4).f2).toList)) || (!(((rd_T42 t492 x8_4).f3) == ((rd_T42 x3_1 x8_4).f3)) || ((!(((rd_T42 t492 x8_4).f4.f0) == ((rd_T42 x3_1 x8_4).f4.f0)) || (!(((rd_T42 t492 x8_4).f4.f1) == ((rd_T42 x3_1 x8_4).f4.f1)) || (!(((rd_T42 t492 x8_4).f4.f2) == ((rd_T42 x3_1 x8_4).f4.f2)) || (!(((rd_T42 t492 x8_4).f4.f3) == ((rd_T42 x3_1 x8_4).f4.f3))))))))))) = true
              ·rw [if_pos c28] at H
               exact absurd H (by simp)
              ·rw [if_neg c28] at H
               have c28b0 : (!(((rd_T42 t492 x8_4).f0) == ((rd_T42 x3_1 x8_4).f0)) || ((!(((rd_T42 t492 x8_4).f1.f0) == ((rd_T42 x3_1 x8_4).f1.f0)) || (!(((rd_T42 t492 x8_4).f1.f1) == ((rd_T42 x3_1 x8_4).f1.f1)) || (!(((rd_T42 t492 x8_4).f1.f2) == ((rd_T42 x3_1 x8_4).f1.f2)) || (!(((rd_T42 t492 x8_4).f1.f3) == ((rd_T42 x3_1 x8_4).f1.f3)) || (!(((rd_T42 t492 x8_4).f1.f4) == ((rd_T42 x3_1 x8_4).f1.f4)) || (!(((rd_T42 t492 x8_4).f1.f5) == ((rd_T42 x3_1 x8_4).f1.f5)) || (!(((rd_T42 t492 x8_4).f1.f6) == ((rd_T42 x3_1 x8_4).f1.f6)) || (!(((rd_T42 t492 x8_4).f1.f7) == ((rd_T42 x3_1 x8_4).f1.f7)) || (!(((rd_T42 t492 x8_4).f1.f8) == ((rd_T42 x3_1 x8_4).f1.f8)) || (!(((rd_T42 t492 x8_4).f1.f9) == ((rd_T42 x3_1 x8_4).f1.f9)) || (!(((rd_T42 t492 x8_4).f1.f10) == ((rd_T42 x3_1 x8_4).f1.f10)) || (!(((rd_T42 t492 x8_4).f1.f11) == ((rd_T42 x3_1 x8_4).f1.f11)))))))))))))) || (!((((rd_T42 t492 x8_4).f2).toList) == (((rd_T42 x3_1 x8_4).f2).toList)) || (!(((rd_T42 t492 x8_4).f3) == ((rd_T42 x3_1 x8_4).f3)) || ((!(((rd_T42 t492 x8_4).f4.f0) == ((rd_T42 x3_1 x8_4).f4.f0)) || (!(((rd_T42 t492 x8_4).f4.f1) == ((rd_T42 x3_1 x8_4).f4.f1)) || (!(((rd_T42 t492 x8_4).f4.f2) == ((rd_T42 x3_1 x8_4).f4.f2)) || (!(((rd_T42 t492 x8_4).f4.f3) == ((rd_T42 x3_1 x8_4).f4.f3))))))))))) = false := by simpa using c28
               clear c28
               have H' := Aside0.mk H
               clear H
               obtain ⟨Ao29, co29, eo29⟩ := Kd.R_slice HO_6.out
               subst eo29
               have p496 : 0 ≤ (x8_4 : Int) := of_decide_eq_true (by first | (with_reducible assumption) | assumption)
               have q496 : x8_4 < (t492.length : Int) := of_decide_eq_true (by first | (with_reducible assumption) | assumption)
               obtain ⟨ad496, e496, hx496_0, hx496_1, hx496_2, hx496_3, hx496_4, hx496_5, hx496_6, hx496_7, hx496_8, hx496_9, hx496_10, hx496_11, hx496_12, hx496_13, hx496_14, hx496_15, hx496_16, hx496_17, hx496_18⟩ := at_T42 (Kd.R_reads' HO_6.out).2.2 x8_4 p496 q496
               cases e496
               replace p496 := eq_true p496
               replace q496 := eq_true q496
               have p497 : 0 ≤ (x8_4 : Int) := of_decide_eq_true (by first | (with_reducible assumption) | assumption)
               have q497 : x8_4 < (x3_1.length : Int) := of_decide_eq_true (by first | (with_reducible assumption) | assumption)
               obtain ⟨ad497, e497, hx497_0, hx497_1, hx497_2, hx497_3, hx497_4, hx497_5, hx497_6, hx497_7, hx497_8, hx497_9, hx497_10, hx497_11, hx497_12, hx497_13, hx497_14, hx497_15, hx497_16, hx497_17, hx497_18⟩ := at_T42 (Kd.R_reads' HO_3.out).2.2 x8_4 p497 q497
               cases e497
               replace p497 := eq_true p497
               replace q497 := eq_true q497
               go_wp2
               repeat (go_quiet (fail); try go_wp2)
               go_roundg k4
               case measure => have := HK1.out; have := HJ1.out; have := HJ16.out; have := HK4.out; omega
               case rel => exact ⟨(wrap64 (x8_4 + 1)), (by first | rfl | (simp; done) | (simp; unfold wrap64; omega) | (simp [*]; done)), H', ⟨by have := HK1.out; have := HJ1.out; have := HJ16.out; have := HK4.out; omega⟩, ⟨by (with_reducible repeat (first | apply rA | apply rN | apply rD)); exact HO_3.out⟩, ⟨by (with_reducible repeat (first | apply rA | apply rN | apply rD)); exact HO_5.out⟩, ⟨by (with_reducible repeat (first | apply rA | apply rN | apply rD)); exact HO_6.out⟩, ⟨by repeat (first | (with_reducible first | exact HB.out | apply bA | apply bN | apply bD) | exact HB.out)⟩⟩
             ·rw [if_neg c27] at H
              exact absurd H (by simp)
            ·rw [if_neg c26] at H
             exact absurd H (by simp)
           ·rw [if_neg c25] at H
            have c25b0 : decide (x8_4 < (t492.length : Int)) = false := decide_eq_false c25
            clear c25
            by_cases c30 : (t489.length : Int) = 0
            ·rw [if_pos c30] at H
             have c30b0 : ((t489.length : Int) == 0) = true := beq_iff_eq.mpr c30
             have c30b1 : ((t489.length : Int) != 0) = false := bne_eq_false_iff_eq.mpr c30
             clear c30
             by_cases c31 : (x3_1.length : Int) = 0
             ·rw [if_pos c31] at H
              have c31b0 : ((x3_1.length : Int) == 0) = true := beq_iff_eq.mpr c31
              have c31b1 : ((x3_1.length : Int) != 0) = false := bne_eq_false_iff_eq.mpr c31
              clear c31
              replace H := Option.bind_eq_some_iff.mp H
              obtain ⟨t498, A320, H⟩ := H
              replace H : (some t498) = some r := H
              have A32 := Aside0.mk A320
              clear A320
              obtain rfl := Option.some.inj H
              obtain ⟨Ao33, co33, eo33⟩ := Kd.R_slice HO_6.out
              subst eo33
              go_wp2_with (first | (go_at_call 9; (with_reducible refine (berthinglaw28_one.calls k4  t498 _ (Cur.ErrT.go (by repeat (first | (with_reducible first | exact HB.out | apply bA | apply bN | apply bD) | exact HB.out)) hT) A32.out).mono ?_); rintro e w34 ⟨rfl, hb⟩; have n0_ := Aside0.mk (Kd.R_below (by (with_reducible repeat (first | apply rA | apply rN | apply rD)); exact HO_3.out) hb); have n1_ := Aside0.mk (Kd.R_below (by (with_reducible repeat (first | apply rA | apply rN | apply rD)); exact HO_5.out) hb); have n2_ := Aside0.mk (Kd.R_below (by (with_reducible repeat (first | apply rA | apply rN | apply rD)); exact HO_6.out) hb); have n3_ := Aside0.mk (below_step (by repeat (first | (with_reducible first | exact HB.out | apply bA | apply bN | apply bD) | exact HB.out)) hb); clear HO_3; clear HO_5; clear HO_6; clear HB; have HO_3 := n0_; have HO_5 := n1_; have HO_6 := n2_; have HB := n3_; clear n0_ n1_ n2_ n3_; (try clear hb); (try clear hb2); (try clear hk); (try clear hi)))
              go_ret
              exact ⟨by first | rfl | (simp [errW_none, errW_some] <;> rfl) | (simp [*, errW_none, errW_some] <;> rfl), by repeat (first | (with_reducible first | exact HB.out | apply bA | apply bN | apply bD) | exact HB.out)⟩
             ·rw [if_neg c31] at H
              exact absurd H (by simp)
            ·rw [if_neg c30] at H
             have c30b0 : ((t489.length : Int) == 0) = false := beq_eq_false_iff_ne.mpr c30
             have c30b1 : ((t489.length : Int) != 0) = true := bne_iff_ne.mpr c30
             have c30b2 : ¬ (t489 = []) := fun h_ => c30 (by rw [h_]; rfl)
             obtain ⟨ji35, hji35⟩ : ∃ j_ : Int, (wrap64 ((t489.length : Int) - 1)) = j_ := ⟨_, rfl⟩
             replace H : (if 0 ≤ (ji35) then (if (ji35) ≤ (t489.length : Int) then ((script_Read.f (t489.take ((ji35) : Int).toNat)).bind fun bt503 => (if 65537 ≤ 281474976710656 then ((script_Read.f (List.replicate 65537 0)).bind fun bt510 => (if (bt503.1.length : Int) = (wrap64 ((x3_1.length : Int) - 1)) then (if bt510.2 = 3 then ((berthinglaw28_one.f k4).bind fun t514 => (some t514)) else (none)) else (none))) else (none))) else (none)) else (none)) = some r := by first | (rw [hji35] at H; exact H) | (simp only [hji35] at H ⊢; exact H)
             have hji35w : (IntKind.i64.wrap ((t489.length : Int) - 1)) = ji35 := (i64_w _).trans hji35
             by_cases c36 : 0 ≤ (ji35)
             ·rw [if_pos c36] at H
              have c36b0 := eq_true c36
              have c36b1 : decide (0 ≤ (ji35)) = true := decide_eq_true c36
              clear c36
              by_cases c37 : (ji35) ≤ (t489.length : Int)
              ·rw [if_pos c37] at H
               have c37b0 := eq_true c37
               have c37b1 : decide ((ji35) ≤ (t489.length : Int)) = true := decide_eq_true c37
               clear c37
               obtain ⟨y499, hy499⟩ : ∃ y_ : List Int, y_ = (t489.take ((ji35) : Int).toNat) := ⟨_, rfl⟩
               replace H : ((script_Read.f y499).bind fun bt503 => (if 65537 ≤ 281474976710656 then ((script_Read.f (List.replicate 65537 0)).bind fun bt510 => (if (bt503.1.length : Int) = (wrap64 ((x3_1.length : Int) - 1)) then (if bt510.2 = 3 then ((berthinglaw28_one.f k4).bind fun t514 => (some t514)) else (none)) else (none))) else (none))) = some r := by first | (rw [hy499]; with_reducible exact H) | (have H2_ := (Option.bind_some _ _).symm.trans H; rw [hy499]; with_reducible exact H2_) | (have H2_ := (Option.bind_some _ _).symm.trans H; with_reducible exact H2_) | with_reducible exact H | (rw [hy499]; exact H) | exact H
               have Ny499 := Aside0.mk hy499
               clear hy499
               replace H := Option.bind_eq_some_iff.mp H
               obtain ⟨⟨t503, t504⟩, A380, H⟩ := H
               replace H : (if 65537 ≤ 281474976710656 then ((script_Read.f (List.replicate 65537 0)).bind fun bt510 => (if (t503.length : Int) = (wrap64 ((x3_1.length : Int) - 1)) then (if bt510.2 = 3 then ((berthinglaw28_one.f k4).bind fun t514 => (some t514)) else (none)) else (none))) else (none)) = some r := H
               have A38 := Aside0.mk A380
               clear A380
               by_cases c39 : 65537 ≤ 281474976710656
               ·rw [if_pos c39] at H
                have c39b0 := eq_true c39
                have c39b1 : decide (65537 ≤ 281474976710656) = true := decide_eq_true c39
                clear c39
                obtain ⟨y507, hy507⟩ : ∃ y_ : List Int, y_ = (List.replicate 65537 0) := ⟨_, rfl⟩
                replace H : ((script_Read.f y507).bind fun bt510 => (if (t503.length : Int) = (wrap64 ((x3_1.length : Int) - 1)) then (if bt510.2 = 3 then ((berthinglaw28_one.f k4).bind fun t514 => (some t514)) else (none)) else (none))) = some r := by first | (rw [hy507]; with_reducible exact H) | (have H2_ := (Option.bind_some _ _).symm.trans H; rw [hy507]; with_reducible exact H2_) | (have H2_ := (Option.bind_some _ _).symm.trans H; with_reducible exact H2_) | with_reducible exact H | (rw [hy507]; exact H) | exact H
                have Ny507 := Aside0.mk hy507
                clear hy507
                replace H := Option.bind_eq_some_iff.mp H
                obtain ⟨⟨t510, t511⟩, A400, H⟩ := H
                replace H : (if (t503.length : Int) = (wrap64 ((x3_1.length : Int) - 1)) then (if t511 = 3 then ((berthinglaw28_one.f k4).bind fun t514 => (some t514)) else (none)) else (none)) = some r := H
                have A40 := Aside0.mk A400
                clear A400
                by_cases c41 : (t503.length : Int) = (wrap64 ((x3_1.length : Int) - 1))
                ·rw [if_pos c41] at H
                 have c41b0 : ((t503.length : Int) == (wrap64 ((x3_1.length : Int) - 1))) = true := beq_iff_eq.mpr c41
                 have c41b1 : ((t503.length : Int) != (wrap64 ((x3_1.length : Int) - 1))) = false := bne_eq_false_iff_eq.mpr c41
                 clear c41
                 by_cases c42 : t511 = 3
                 ·rw [if_pos c42] at H
                  have c42b0 : (t511 == 3) = true := beq_iff_eq.mpr c42
                  have c42b1 : (t511 != 3) = false := bne_eq_false_iff_eq.mpr c42
                  clear c42
                  replace H := Option.bind_eq_some_iff.mp H
                  obtain ⟨t514, A430, H⟩ := H
                  replace H : (some t514) = some r := H
                  have A43 := Aside0.mk A430
                  clear A430
                  obtain rfl := Option.some.inj H
                  obtain ⟨Ao44, co44, eo44⟩ := Kd.R_slice HO_6.out
                  subst eo44
                  have q45 : ((ji35) : Int) ≤ ((t489.length : Int) : Int) := of_decide_eq_true (by first | (with_reducible assumption) | assumption)
                  obtain ⟨i045, hi045, _, hsz45, _⟩ := info_parts info5
                  have hroom45 : t489.length ≤ co20 := (Kd.R_reads' HO_5.out).2.1
                  have hC45 : Kd.C (Kd.int .u8) _ Ao20 t489.length t489 := (Kd.R_reads' HO_5.out).2.2
                  have hcut45 := cut_to (P := Tryd.prog) 22 5 .i64 Tryd.underlying22 hi045 Ao20 t489.length co20 (ji35) (of_decide_eq_true (by first | (with_reducible assumption) | assumption)) q45 hroom45
                  have hr45 := Kd.C_take (m := ((ji35) : Int).toNat) hC45 (by omega)
                  have hy45 : y499.length = ((ji35) : Int).toNat := (by rw [Ny499.out, List.length_take]; omega)
                  rw [← Ny499.out] at hr45
                  rw [← hy45] at hcut45
                  have HR502 := Aside0.mk hr45
                  have HC502 := Aside0.mk (show y499.length ≤ co20 from by omega)
                  clear hr45 hC45 hroom45 hi045 hsz45
                  have KY45 := Aside0.mk hy45
                  clear hy45
                  have KL45 := Aside0.mk (show ((ji35) : Int).toNat ≤ t489.length from by omega)
                  replace q45 := eq_true q45
                  go_wp2_with (first | (go_at_call 6; (with_reducible refine (script_Read.calls _ _ y499 t503 t504 _ (Cur.ErrT.go (by repeat (first | (with_reducible first | exact HB.out | apply bA | apply bN | apply bD) | exact HB.out)) hT) ?side1 ?side2 A38.out).mono ?_); (case side1 => repeat (first | exact (by repeat (first | (with_reducible exact HR502.out) | (with_reducible apply cA) | (with_reducible apply cN) | (with_reducible apply cD) | exact HR502.out)) | (with_reducible apply cA) | (with_reducible apply cN) | (with_reducible apply cD))); (case side2 => exact HC502.out); rintro e w46 ⟨v505, rfl, ho0, hb⟩; have n0_ := Aside0.mk (Kd.R_elder' (by (with_reducible repeat (first | apply rA | apply rN | apply rD)); exact HO_3.out) (Kd.R_base ho0) hb); have n1_ := Aside0.mk (Kd.R_below (by (with_reducible repeat (first | apply rA | apply rN | apply rD)); exact HO_5.out) hb); have n2_ := Aside0.mk (Kd.R_elder' (by (with_reducible repeat (first | apply rA | apply rN | apply rD)); exact HO_6.out) (Kd.R_base ho0) hb); have n3_ := Aside0.mk (Kd.R_lower (Kd.R_new' (Kd.R_new' ho0 (Kd.R_lt (by (with_reducible repeat (first | apply rA | apply rN | apply rD)); exact HO_3.out))) (Kd.R_lt (by (with_reducible repeat (first | apply rA | apply rN | apply rD)); exact HO_6.out))) (below_size (by repeat (first | (with_reducible first | exact HB.out | apply bA | apply bN | apply bD) | exact HB.out)))); have n4_ := Aside0.mk (Kd.C_below (by repeat (first | (with_reducible exact HR502.out) | (with_reducible apply cA) | (with_reducible apply cN) | (with_reducible apply cD) | exact HR502.out)) hb); have n5_ := Aside0.mk (below_step (by repeat (first | (with_reducible first | exact HB.out | apply bA | apply bN | apply bD) | exact HB.out)) hb); clear HO_3; clear HO_5; clear HO_6; clear HR502; clear HB; have HO_3 := n0_; have HO_5 := n1_; have HO_6 := n2_; have HO506 := n3_; have HR502 := n4_; have HB := n5_; clear n0_ n1_ n2_ n3_ n4_ n5_; (try clear hb); (try clear hb2); (try clear hk); (try clear hi); (try clear ho0)) | ((with_reducible refine gate_dst (N := 86) rfl ?_); (try (refine gate_guard (by rfl) ?_; dsimp only)); refine Kd.R_make (Kd.int .u8) _ 5 rfl (N := 86) rfl 22 _ _ rfl 65537 rfl rfl Tryd.underlying22 (.int .u8 0) 1 info5 rfl (by decide) (by omega) 0 (ok := fun _ => True) (okp := fun _ => True) rfl (fun _ hk => hk) trivial (by omega) (by omega) (Below.refl _ _) (Nat.le_refl _) ?_; intro v508 w47 ho48 hb hg_ hnew_; clear hg_ hnew_; (first | rw [← Ny507.out] at ho48 | (simp only [Int.reduceToNat] at ho48; rw [← Ny507.out] at ho48)); have n0_ := Aside0.mk (Kd.R_below (by (with_reducible repeat (first | apply rA | apply rN | apply rD)); exact HO_3.out) hb); have n1_ := Aside0.mk (Kd.R_elder' (by (with_reducible repeat (first | apply rA | apply rN | apply rD)); exact HO_5.out) (Kd.R_base ho48) hb); have n2_ := Aside0.mk (Kd.R_below (by (with_reducible repeat (first | apply rA | apply rN | apply rD)); exact HO_6.out) hb); have n3_ := Aside0.mk (Kd.R_below (by (with_reducible repeat (first | apply rA | apply rN | apply rD)); exact HO506.out) hb); have n4_ := Aside0.mk (Kd.R_lower (Kd.R_new' ho48 (Kd.R_lt (by (with_reducible repeat (first | apply rA | apply rN | apply rD)); exact HO_5.out))) (below_size (by repeat (first | (with_reducible first | exact HB.out | apply bA | apply bN | apply bD) | exact HB.out)))); have n5_ := Aside0.mk (Kd.C_below (by repeat (first | (with_reducible exact HR502.out) | (with_reducible apply cA) | (with_reducible apply cN) | (with_reducible apply cD) | exact HR502.out)) hb); have n6_ := Aside0.mk (below_step (by repeat (first | (with_reducible first | exact HB.out | apply bA | apply bN | apply bD) | exact HB.out)) hb); clear HO_3; clear HO_5; clear HO_6; clear HO506; clear HR502; clear HB; have HO_3 := n0_; have HO_5 := n1_; have HO_6 := n2_; have HO506 := n3_; have HO509 := n4_; have HR502 := n5_; have HB := n6_; clear n0_ n1_ n2_ n3_ n4_ n5_ n6_; clear hb ho48; obtain ⟨Ao49, co49, eo49⟩ := Kd.R_slice HO509.out; subst eo49) | (go_at_call 6; (with_reducible refine (script_Read.calls _ _ y507 t510 t511 _ (Cur.ErrT.go (by repeat (first | (with_reducible first | exact HB.out | apply bA | apply bN | apply bD) | exact HB.out)) hT) ?side1 ?side2 A40.out).mono ?_); (case side1 => repeat (first | exact (Kd.R_reads' HO509.out).2.2 | (with_reducible apply cA) | (with_reducible apply cN) | (with_reducible apply cD))); (case side2 => exact (Kd.R_reads' HO509.out).2.1); rintro e w50 ⟨v512, rfl, ho0, hb⟩; have n0_ := Aside0.mk (Kd.R_elder' (by (with_reducible repeat (first | apply rA | apply rN | apply rD)); exact HO_3.out) (Kd.R_base ho0) hb); have n1_ := Aside0.mk (Kd.R_below (by (with_reducible repeat (first | apply rA | apply rN | apply rD)); exact HO_5.out) hb); have n2_ := Aside0.mk (Kd.R_elder' (by (with_reducible repeat (first | apply rA | apply rN | apply rD)); exact HO_6.out) (Kd.R_base ho0) hb); have n3_ := Aside0.mk (Kd.R_elder' (by (with_reducible repeat (first | apply rA | apply rN | apply rD)); exact HO506.out) (Kd.R_base ho0) hb); have n4_ := Aside0.mk (Kd.R_below (by (with_reducible repeat (first | apply rA | apply rN | apply rD)); exact HO509.out) hb); have n5_ := Aside0.mk (Kd.R_lower (Kd.R_new' (Kd.R_new' (Kd.R_new' ho0 (Kd.R_lt (by (with_reducible repeat (first | apply rA | apply rN | apply rD)); exact HO_3.out))) (Kd.R_lt (by (with_reducible repeat (first | apply rA | apply rN | apply rD)); exact HO_6.out))) (Kd.R_lt (by (with_reducible repeat (first | apply rA | apply rN | apply rD)); exact HO506.out))) (below_size (by repeat (first | (with_reducible first | exact HB.out | apply bA | apply bN | apply bD) | exact HB.out)))); have n6_ := Aside0.mk (Kd.C_below (by repeat (first | (with_reducible exact HR502.out) | (with_reducible apply cA) | (with_reducible apply cN) | (with_reducible apply cD) | exact HR502.out)) hb); have n7_ := Aside0.mk (below_step (by repeat (first | (with_reducible first | exact HB.out | apply bA | apply bN | apply bD) | exact HB.out)) hb); clear HO_3; clear HO_5; clear HO_6; clear HO506; clear HO509; clear HR502; clear HB; have HO_3 := n0_; have HO_5 := n1_; have HO_6 := n2_; have HO506 := n3_; have HO509 := n4_; have HO513 := n5_; have HR502 := n6_; have HB := n7_; clear n0_ n1_ n2_ n3_ n4_ n5_ n6_ n7_; (try clear hb); (try clear hb2); (try clear hk); (try clear hi); (try clear ho0); obtain ⟨Ao51, co51, eo51⟩ := Kd.R_slice HO506.out; subst eo51) | (go_at_call 9; (with_reducible refine (berthinglaw28_one.calls k4  t514 _ (Cur.ErrT.go (by repeat (first | (with_reducible first | exact HB.out | apply bA | apply bN | apply bD) | exact HB.out)) hT) A43.out).mono ?_); rintro e w52 ⟨rfl, hb⟩; have n0_ := Aside0.mk (Kd.R_below (by (with_reducible repeat (first | apply rA | apply rN | apply rD)); exact HO_3.out) hb); have n1_ := Aside0.mk (Kd.R_below (by (with_reducible repeat (first | apply rA | apply rN | apply rD)); exact HO_5.out) hb); have n2_ := Aside0.mk (Kd.R_below (by (with_reducible repeat (first | apply rA | apply rN | apply rD)); exact HO_6.out) hb); have n3_ := Aside0.mk (Kd.R_below (by (with_reducible repeat (first | apply rA | apply rN | apply rD)); exact HO506.out) hb); have n4_ := Aside0.mk (Kd.R_below (by (with_reducible repeat (first | apply rA | apply rN | apply rD)); exact HO509.out) hb); have n5_ := Aside0.mk (Kd.R_below (by (with_reducible repeat (first | apply rA | apply rN | apply rD)); exact HO513.out) hb); have n6_ := Aside0.mk (Kd.C_below (by repeat (first | (with_reducible exact HR502.out) | (with_reducible apply cA) | (with_reducible apply cN) | (with_reducible apply cD) | exact HR502.out)) hb); have n7_ := Aside0.mk (below_step (by repeat (first | (with_reducible first | exact HB.out | apply bA | apply bN | apply bD) | exact HB.out)) hb); clear HO_3; clear HO_5; clear HO_6; clear HO506; clear HO509; clear HO513; clear HR502; clear HB; have HO_3 := n0_; have HO_5 := n1_; have HO_6 := n2_; have HO506 := n3_; have HO509 := n4_; have HO513 := n5_; have HR502 := n6_; have HB := n7_; clear n0_ n1_ n2_ n3_ n4_ n5_ n6_ n7_; (try clear hb); (try clear hb2); (try clear hk); (try clear hi)))
                  go_ret
                  exact ⟨by first | rfl | (simp [errW_none, errW_some] <;> rfl) | (simp only [← hji35]; first | rfl | (simp [errW_none, errW_some] <;> rfl)) | (simp [*, errW_none, errW_some] <;> rfl), by repeat (first | (with_reducible first | exact HB.out | apply bA | apply bN | apply bD) | exact HB.out)⟩
                 ·rw [if_neg c42] at H
                  exact absurd H (by simp)
                ·rw [if_neg c41] at H
                 exact absurd H (by simp)
               ·rw [if_neg c39] at H
                exact absurd H (by simp)
              ·rw [if_neg c37] at H
               exact absurd H (by simp)
             ·rw [if_neg c36] at H
              exact absurd H (by simp)

end Go.Proofs.YtkkjjogbfjahgaaDoor.PSc
