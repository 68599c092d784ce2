/- By a program of this session (the print, with contracts written by hand let in), key Sc: what the functions come to as Lean functions, and the contracts that lead from the Go code to them. Conditions: those of the statements. -/
import Derived.Test.YtkkjjogbfjahgaaDoorScRead
import Derived.Test.YtkkjjogbfjahgaaDoorScRef
import Derived.Test.YtkkjjogbfjahgaaDoorPScx0
import Derived.Test.YtkkjjogbfjahgaaDoorPScx2
import Derived.Test.YtkkjjogbfjahgaaDoorPScx8
import Derived.Test.YtkkjjogbfjahgaaDoorPScx9
import Derived.Test.YtkkjjogbfjahgaaDoorPScx11
import Derived.Test.YtkkjjogbfjahgaaDoorPScx23
import Derived.Lib.SliceRun
namespace Go.Proofs.YtkkjjogbfjahgaaDoor.PSc
open Go.RowKit Go.Proofs.YtkkjjogbfjahgaaDoorW.PrintWords Go.Proofs.YtkkjjogbfjahgaaDoorW.PrintLast Go.Proofs.YtkkjjogbfjahgaaDoorW.PrintMore
attribute [local go_sem] max2_int min2_int max_two min_two max_three min_three max_four min_four   -- for this text's walks alone
set_option linter.unusedVariables false
set_option linter.unusedSimpArgs false

attribute [local go_sem high] eqA35
attribute [local go_sem ↓ high] lb35 lb42
attribute [local go_sem high] ld35 ld42
/-! ### berthinglaw28_ScriptReads: function 3 -/
mutual
def berthinglaw28_ScriptReads.j0 : Nat → List (S42) → List (S35) → Bool → Option (Bool)
 | 0, _, _, _ => none
 | k + 1, x3, x5, x31 => if x31 = true then (none) else (berthinglaw28_ScriptReads.l0 k x3 x5 0)
def berthinglaw28_ScriptReads.l0 : Nat → List (S42) → List (S35) → Int → Option (Bool)
 | 0, _, _, _ => none
 | k + 1, x3, x5, x7 => if x7 < (x3.length : Int) then (if 0 ≤ x7 then ((berthinglaw28_Own.f k ((rd_T42 x3 x7).f0) ((rd_T42 x3 x7).f1.f0) ((rd_T42 x3 x7).f1.f1) ((rd_T42 x3 x7).f1.f2) ((rd_T42 x3 x7).f1.f3) ((rd_T42 x3 x7).f1.f4) ((rd_T42 x3 x7).f1.f5) ((rd_T42 x3 x7).f1.f6) ((rd_T42 x3 x7).f1.f7) ((rd_T42 x3 x7).f1.f8) ((rd_T42 x3 x7).f1.f9) ((rd_T42 x3 x7).f1.f10) ((rd_T42 x3 x7).f1.f11) ((rd_T42 x3 x7).f2) ((rd_T42 x3 x7).f3) ((rd_T42 x3 x7).f4.f0) ((rd_T42 x3 x7).f4.f1) ((rd_T42 x3 x7).f4.f2) ((rd_T42 x3 x7).f4.f3)).bind fun bt444 => (if x7 < (x5.length : Int) then (if (!(bt444.1 == ((rd_T35 x5 x7).f0)) || ((!(bt444.2.1 == ((rd_T35 x5 x7).f1.f0)) || ((!(bt444.2.2.1 == ((rd_T35 x5 x7).f1.f1.f0)) || (!(bt444.2.2.2.1 == ((rd_T35 x5 x7).f1.f1.f1)) || (!(bt444.2.2.2.2.1 == ((rd_T35 x5 x7).f1.f1.f2)) || (!(bt444.2.2.2.2.2.1 == ((rd_T35 x5 x7).f1.f1.f3)) || (!(bt444.2.2.2.2.2.2.1 == ((rd_T35 x5 x7).f1.f1.f4)) || (!(bt444.2.2.2.2.2.2.2.1 == ((rd_T35 x5 x7).f1.f1.f5)) || (!(bt444.2.2.2.2.2.2.2.2.1 == ((rd_T35 x5 x7).f1.f1.f6)) || (!(bt444.2.2.2.2.2.2.2.2.2.1 == ((rd_T35 x5 x7).f1.f1.f7)) || (!(bt444.2.2.2.2.2.2.2.2.2.2.1 == ((rd_T35 x5 x7).f1.f1.f8)) || (!(bt444.2.2.2.2.2.2.2.2.2.2.2.1 == ((rd_T35 x5 x7).f1.f1.f9)) || (!(bt444.2.2.2.2.2.2.2.2.2.2.2.2.1 == ((rd_T35 x5 x7).f1.f1.f10))))))))))))))) || (!(bt444.2.2.2.2.2.2.2.2.2.2.2.2.2.1.toList == (((rd_T35 x5 x7).f2).toList)) || ((!(bt444.2.2.2.2.2.2.2.2.2.2.2.2.2.2.1 == ((rd_T35 x5 x7).f3.f0)) || (!(bt444.2.2.2.2.2.2.2.2.2.2.2.2.2.2.2.1 == ((rd_T35 x5 x7).f3.f1)) || (!(bt444.2.2.2.2.2.2.2.2.2.2.2.2.2.2.2.2.1 == ((rd_T35 x5 x7).f3.f2)) || (!(bt444.2.2.2.2.2.2.2.2.2.2.2.2.2.2.2.2.2 == ((rd_T35 x5 x7).f3.f3)))))))))) = true then (none) else (berthinglaw28_ScriptReads.l0 k x3 x5 (wrap64 (x7 + 1)))) else (none))) else (none)) else ((berthinglaw28_one.f k).bind fun t463 => (some t463))
end
def berthinglaw28_ScriptReads.f (k : Nat) (l0 : List Int) : Option (Bool) := if (l0.length : Int) > 4000 then (some true) else ((script_Read.f l0).bind fun bt435 => ((berthingref28_Read.f (strOfNums l0)).bind fun bt439 => (if bt435.2 = bt439.2 then (berthinglaw28_ScriptReads.j0 k bt435.1 bt439.1 ((bt435.1.length : Int) != (bt439.1.length : Int))) else (berthinglaw28_ScriptReads.j0 k bt435.1 bt439.1 true))))
theorem berthinglaw28_ScriptReads.mono_l : ∀ k, (∀ y0 y1 y2, LeO (berthinglaw28_ScriptReads.j0 k y0 y1 y2) (berthinglaw28_ScriptReads.j0 (k + 1) y0 y1 y2)) ∧ (∀ y0 y1 y2, LeO (berthinglaw28_ScriptReads.l0 k y0 y1 y2) (berthinglaw28_ScriptReads.l0 (k + 1) y0 y1 y2))
 | 0 => ⟨fun _ _ _ r h => by simp [berthinglaw28_ScriptReads.j0] at h, fun _ _ _ r h => by simp [berthinglaw28_ScriptReads.l0] at h⟩
 | k + 1 => by
  obtain ⟨ih0, ih1⟩ := berthinglaw28_ScriptReads.mono_l k
  refine ⟨?_, ?_⟩
  ·intro y0 y1 y2
   unfold berthinglaw28_ScriptReads.j0
   repeat' first
   | (with_reducible exact ih0 _ _ _)
   | (with_reducible exact ih1 _ _ _)
   | (with_reducible exact berthinglaw28_Own.mono _ _ _ _ _ _ _ _ _ _ _ _ _ _ _ _ _ _ _ _)
   | (with_reducible exact berthinglaw28_one.mono _)
   | (with_reducible exact LeO.refl _)
   | (with_reducible exact LeO.none _)
   | (with_reducible refine LeO.ite ?_ ?_)
   | (with_reducible refine LeO.bind ?_ (fun _ => ?_))
   | exact ih0 _ _ _
   | exact ih1 _ _ _
   | exact berthinglaw28_Own.mono _ _ _ _ _ _ _ _ _ _ _ _ _ _ _ _ _ _ _ _
   | exact berthinglaw28_one.mono _
   | exact LeO.none _
   | refine LeO.ite ?_ ?_
   | refine LeO.bind ?_ (fun _ => ?_)
  ·intro y0 y1 y2
   unfold berthinglaw28_ScriptReads.l0
   repeat' first
   | (with_reducible exact ih0 _ _ _)
   | (with_reducible exact ih1 _ _ _)
   | (with_reducible exact berthinglaw28_Own.mono _ _ _ _ _ _ _ _ _ _ _ _ _ _ _ _ _ _ _ _)
   | (with_reducible exact berthinglaw28_one.mono _)
   | (with_reducible exact LeO.refl _)
   | (with_reducible exact LeO.none _)
   | (with_reducible refine LeO.ite ?_ ?_)
   | (with_reducible refine LeO.bind ?_ (fun _ => ?_))
   | exact ih0 _ _ _
   | exact ih1 _ _ _
   | exact berthinglaw28_Own.mono _ _ _ _ _ _ _ _ _ _ _ _ _ _ _ _ _ _ _ _
   | exact berthinglaw28_one.mono _
   | exact LeO.none _
   | refine LeO.ite ?_ ?_
   | refine LeO.bind ?_ (fun _ => ?_)
theorem berthinglaw28_ScriptReads.mono : ∀ a0 k, LeO (berthinglaw28_ScriptReads.f k a0) (berthinglaw28_ScriptReads.f (k + 1) a0) := by
 intro a0 k
 obtain ⟨ih0, ih1⟩ := berthinglaw28_ScriptReads.mono_l k
 unfold berthinglaw28_ScriptReads.f
 repeat' first
   | (with_reducible exact ih0 _ _ _)
   | (with_reducible exact ih1 _ _ _)
   | (with_reducible exact berthinglaw28_Own.mono _ _ _ _ _ _ _ _ _ _ _ _ _ _ _ _ _ _ _ _)
   | (with_reducible exact berthinglaw28_one.mono _)
   | (with_reducible exact LeO.refl _)
   | (with_reducible exact LeO.none _)
   | (with_reducible refine LeO.ite ?_ ?_)
   | (with_reducible refine LeO.bind ?_ (fun _ => ?_))
   | exact ih0 _ _ _
   | exact ih1 _ _ _
   | exact berthinglaw28_Own.mono _ _ _ _ _ _ _ _ _ _ _ _ _ _ _ _ _ _ _ _
   | exact berthinglaw28_one.mono _
   | exact LeO.none _
   | refine LeO.ite ?_ ?_
   | refine LeO.bind ?_ (fun _ => ?_)
def berthinglaw28_ScriptReads.T10 : Bool × List (List Nat × List Nat) := (true, [([], []), ([], []), ([0, 1], [0, 1]), ([2], [2]), ([3], [3]), ([], []), ([], []), ([5, 6], [5, 6]), ([7], [7]), ([4, 8], [4, 8])])
def berthinglaw28_ScriptReads.B10 : List Nat := [0, 0, 3, 7, 15, 0, 0, 96, 224, 511]
theorem berthinglaw28_ScriptReads.tab10 : rtab .any (opsOf Tryd.f3 10) = berthinglaw28_ScriptReads.T10 := by kernel_rfl
theorem berthinglaw28_ScriptReads.bits10 : waitsOk berthinglaw28_ScriptReads.T10.2 berthinglaw28_ScriptReads.B10 = true := by kernel_rfl
set_option maxHeartbeats 8000000 in
set_option maxRecDepth 100000 in
theorem berthinglaw28_ScriptReads.calls (k : Nat) (A0 : Option Addr) (c0 : Nat) (l0 : List Int) (r : Bool) (w : World) (hT : Cur.ErrT w) (hr0 : Kd.C (Kd.int .u8) w A0 l0.length l0) (hc0 : l0.length ≤ c0) (h : berthinglaw28_ScriptReads.f k l0 = some r) :
  Calls Tryd.prog 3 #[.slice A0 l0.length c0] w fun e w' => e = .returned (.bool r) ∧ Below w.heap.size w w' := by
 have hu42 := Tryd.underlying42
 have hu35 := Tryd.underlying35
 have HR0 := Aside0.mk hr0
 have HC0 := Aside0.mk hc0
 clear hr0 hc0
 have HB := Aside0.mk (Below.refl w.heap.size w)
 have H : (if (l0.length : Int) > 4000 then (some true) else ((script_Read.f l0).bind fun bt435 => ((berthingref28_Read.f (strOfNums l0)).bind fun bt439 => (if bt435.2 = bt439.2 then (berthinglaw28_ScriptReads.j0 k bt435.1 bt439.1 ((bt435.1.length : Int) != (bt439.1.length : Int))) else (berthinglaw28_ScriptReads.j0 k bt435.1 bt439.1 true))))) = some r := h
 clear h
 by_cases c2 : (l0.length : Int) > 4000
 ·rw [if_pos c2] at H
  have c2b0 : decide (4000 < (l0.length : Int)) = true := decide_eq_true c2
  have c2b1 : decide (4000 < l0.length) = true := decide_eq_true (by omega)
  clear c2
  obtain rfl := Option.some.inj H
  go_enter Tryd.func3, Tryd.ntmps3
  go_wp2
  go_ret
  exact ⟨by first | rfl | (simp [errW_none, errW_some] <;> rfl) | (simp [*, errW_none, errW_some] <;> rfl), by repeat (first | (with_reducible first | exact HB.out | apply below_alloc | apply pw_below_drewN | apply below_drew1) | exact HB.out)⟩
 ·rw [if_neg c2] at H
  have c2b0 : decide (4000 < (l0.length : Int)) = false := decide_eq_false c2
  have c2b1 : decide (4000 < l0.length) = false := decide_eq_false (by omega)
  clear c2
  replace H := Option.bind_eq_some_iff.mp H
  obtain ⟨⟨t435, t436⟩, A30, H⟩ := H
  replace H : ((berthingref28_Read.f (strOfNums l0)).bind fun bt439 => (if t436 = bt439.2 then (berthinglaw28_ScriptReads.j0 k t435 bt439.1 ((t435.length : Int) != (bt439.1.length : Int))) else (berthinglaw28_ScriptReads.j0 k t435 bt439.1 true))) = some r := H
  have A3 := Aside0.mk A30
  clear A30
  replace H := Option.bind_eq_some_iff.mp H
  obtain ⟨⟨t439, t440⟩, A40, H⟩ := H
  replace H : (if t436 = t440 then (berthinglaw28_ScriptReads.j0 k t435 t439 ((t435.length : Int) != (t439.length : Int))) else (berthinglaw28_ScriptReads.j0 k t435 t439 true)) = some r := H
  have A4 := Aside0.mk A40
  clear A40
  have HC5 := Aside0.mk H
  clear H
  go_enter Tryd.func3, Tryd.ntmps3
  go_upto_region 5 with (first | ((with_reducible refine gate_callee (f := 6) rfl ?_); refine goesL_ (some 13) rfl rfl Tryd.func6 (by kernel_rfl) rfl #[.slice A0 l0.length c0] rfl (by (try simp only [List.map_toArray, List.map_cons, List.map_nil]); first | done | rfl | (simp only [List.length_drop, List.length_take]; rfl)) ?_; (with_reducible refine (script_Read.calls _ _ l0 t435 t436 _ (Cur.ErrT.go (by repeat (first | (with_reducible first | exact HB.out | apply below_alloc | apply pw_below_drewN | apply below_drew1) | exact HB.out)) hT) ?side1 ?side2 A3.out).mono ?_); (case side1 => repeat (first | exact HR0.out | (with_reducible refine Kd.C_alloc ?_ _) | (with_reducible refine Kd.C_drewN ?_ _) | (with_reducible refine Kd.C_drew ?_))); (case side2 => exact HC0.out); rintro e w6 ⟨v437, rfl, ho0, hb⟩; refine ⟨_, rfl, ?_⟩; have n0_ := Aside0.mk (Kd.R_lower ho0 (below_size (by repeat (first | (with_reducible first | exact HB.out | apply below_alloc | apply pw_below_drewN | apply below_drew1) | exact HB.out)))); have n1_ := Aside0.mk (below_step (by repeat (first | (with_reducible first | exact HB.out | apply below_alloc | apply pw_below_drewN | apply below_drew1) | exact HB.out)) hb); clear HB; have HO438 := n0_; have HB := n1_; clear n0_ n1_; (try clear hb); (try clear hb2); (try clear hk); (try clear hi); (try clear ho0); have hcv7 := Kd.C_string (P := Tryd.prog) (A := A0) (c := c0) Tryd.underlying22 Tryd.underlying5 Tryd.underlying9 (Kd.C_below HR0.out HB.out)) | ((with_reducible refine gate_callee (f := 7) rfl ?_); refine goesL_ (some 19) rfl rfl Tryd.func7 (by kernel_rfl) rfl #[.string (strOfNums l0)] rfl (by (try simp only [List.map_toArray, List.map_cons, List.map_nil]); first | done | rfl | (simp only [List.length_drop, List.length_take]; rfl)) ?_; (with_reducible refine (berthingref28_Read.calls (strOfNums l0) t439 t440 _ A4.out).mono ?_); rintro e w8 ⟨v441, rfl, ho0, hb⟩; refine ⟨_, rfl, ?_⟩; have n0_ := Aside0.mk (Kd.R_below (by (with_reducible repeat (first | apply Kd.R_alloc | apply Kd.R_drewN | apply Kd.R_drew)); exact HO438.out) hb); have n1_ := Aside0.mk (Kd.R_lower ho0 (below_size (by repeat (first | (with_reducible first | exact HB.out | apply below_alloc | apply pw_below_drewN | apply below_drew1) | exact HB.out)))); have n2_ := Aside0.mk (below_step (by repeat (first | (with_reducible first | exact HB.out | apply below_alloc | apply pw_below_drewN | apply below_drew1) | exact HB.out)) hb); clear HO438; clear HB; have HO438 := n0_; have HO442 := n1_; have HB := n2_; clear n0_ n1_ n2_; (try clear hb); (try clear hb2); (try clear hk); (try clear hi); (try clear ho0)))
  (try simp only [Act.put, List.setIfInBounds_toArray, List.set_cons_zero, List.set_cons_succ])
  go_cut [31] (fun v31 wc => ∃ (kq : Nat) (x31_4 : Bool), v31 = .bool x31_4 ∧ Aside0 (berthinglaw28_ScriptReads.j0 kq t435 t439 x31_4 = some r) ∧ Aside0 (kq ≤ k) ∧ Aside0 (Kd.R k42 42 wc w.heap.size (fun _ => True) v437 t435) ∧ Aside0 (Kd.R k35 35 wc w.heap.size (fun _ => True) v441 t439) ∧ Aside0 (Below w.heap.size w wc))
  case first =>
   have H := HC5.out
   clear HC5
   by_cases c9 : t436 = t440
   ·rw [if_pos c9] at H
    have c9b0 : (t436 == t440) = true := beq_iff_eq.mpr c9
    have c9b1 : (t436 != t440) = false := bne_eq_false_iff_eq.mpr c9
    clear c9
    (first | rw [c9b0] | (simp only [i64_w, i32_w]; rw [c9b0]) | skip)
    have H' := Aside0.mk H
    clear H
    obtain ⟨Ao10, co10, eo10⟩ := Kd.R_slice HO438.out
    subst eo10
    obtain ⟨Ao11, co11, eo11⟩ := Kd.R_slice HO442.out
    subst eo11
    go_wp2
    go_meet
    case rel => exact ⟨_, (((t435.length : Int) != (t439.length : Int))), (by first | rfl | (simp; done) | (simp; unfold wrap64; omega) | (simp [*]; done)), H', ⟨by first | omega | exact Nat.le_refl _⟩, ⟨by (with_reducible repeat (first | apply Kd.R_alloc | apply Kd.R_drewN | apply Kd.R_drew)); exact HO438.out⟩, ⟨by (with_reducible repeat (first | apply Kd.R_alloc | apply Kd.R_drewN | apply Kd.R_drew)); exact HO442.out⟩, ⟨by repeat (first | (with_reducible first | exact HB.out | apply below_alloc | apply pw_below_drewN | apply below_drew1) | exact HB.out)⟩⟩
   ·rw [if_neg c9] at H
    have c9b0 : (t436 == t440) = false := beq_eq_false_iff_ne.mpr c9
    have c9b1 : (t436 != t440) = true := bne_iff_ne.mpr c9
    (first | rw [c9b0] | (simp only [i64_w, i32_w]; rw [c9b0]) | skip)
    have H' := Aside0.mk H
    clear H
    go_wp2
    go_meet
    case rel => exact ⟨_, (true), (by first | rfl | (simp; done) | (simp; unfold wrap64; omega) | (simp [*]; done)), H', ⟨by first | omega | exact Nat.le_refl _⟩, ⟨by (with_reducible repeat (first | apply Kd.R_alloc | apply Kd.R_drewN | apply Kd.R_drew)); exact HO438.out⟩, ⟨by (with_reducible repeat (first | apply Kd.R_alloc | apply Kd.R_drewN | apply Kd.R_drew)); exact HO442.out⟩, ⟨by repeat (first | (with_reducible first | exact HB.out | apply below_alloc | apply pw_below_drewN | apply below_drew1) | exact HB.out)⟩⟩
  case rest =>
   clear HC5
   try clear c2
   try clear c2b0
   try clear c2b1
   try clear p2
   try clear c3
   try clear c6
   try clear p6
   try clear c7
   try clear hcv7
   try clear c9
   try clear c9b0
   try clear c9b1
   obtain ⟨kq, x31_4, rfl, HA, HJ4, HO_3, HO_5, HB⟩ := hcut
   cases kq with
   | zero => exact absurd HA.out (by simp [berthinglaw28_ScriptReads.j0])
   | succ kj4 =>
    have H := HA.out
    clear HA
    simp only [berthinglaw28_ScriptReads.j0] at H
    by_cases c12 : x31_4 = true
    ·subst c12
     have H1 : (none) = some r := by rw [if_pos rfl] at H; exact H
     clear H
     have H := H1
     clear H1
     exact absurd H (by simp)
    ·replace c12 := Bool.eq_false_iff.mpr c12
     subst c12
     have H1 : (berthinglaw28_ScriptReads.l0 kj4 t435 t439 0) = some r := by rw [if_neg (show ¬ (false = true) by decide)] at H; exact H
     clear H
     have H := H1
     clear H1
     have H' := Aside0.mk H
     clear H
     go_wp2
     go_loopg [7] kj4 (fun kq v7 w' => ∃ (x7_2 : Int), v7 = .int .i64 x7_2 ∧ Aside0 (berthinglaw28_ScriptReads.l0 kq t435 t439 x7_2 = some r) ∧ Aside0 (kq ≤ kj4) ∧ Aside0 (Kd.R k42 42 w' w.heap.size (fun _ => True) v437 t435) ∧ Aside0 (Kd.R k35 35 w' w.heap.size (fun _ => True) v441 t439) ∧ Aside0 (Below w.heap.size w w'))
     case atStart => exact ⟨(0), (by first | rfl | (simp; done) | (simp; unfold wrap64; omega) | (simp [*]; done)), H', ⟨Nat.le_refl _⟩, ⟨by (with_reducible repeat (first | apply Kd.R_alloc | apply Kd.R_drewN | apply Kd.R_drew)); exact HO_3.out⟩, ⟨by (with_reducible repeat (first | apply Kd.R_alloc | apply Kd.R_drewN | apply Kd.R_drew)); exact HO_5.out⟩, ⟨by repeat (first | (with_reducible first | exact HB.out | apply below_alloc | apply pw_below_drewN | apply below_drew1) | exact HB.out)⟩⟩
     case round =>
      clear H'
      try clear c1
      try clear c2
      try clear c2b0
      try clear c2b1
      try clear p2
      try clear c3
      try clear c6
      try clear p6
      try clear c7
      try clear hcv7
      try clear c9
      try clear c9b0
      try clear c9b1
      try clear c12
      try clear p2
      try clear p6
      obtain ⟨x7_2, rfl, HA, HK2, HO_3, HO_5, HB⟩ := hrel
      cases gk with
      | zero => exact absurd HA.out (by simp [berthinglaw28_ScriptReads.l0])
      | succ k2 =>
       have H := HA.out
       clear HA
       simp only [berthinglaw28_ScriptReads.l0] at H
       by_cases c13 : x7_2 < (t435.length : Int)
       ·rw [if_pos c13] at H
        have c13b0 : decide (x7_2 < (t435.length : Int)) = true := decide_eq_true c13
        clear c13
        by_cases c14 : 0 ≤ x7_2
        ·rw [if_pos c14] at H
         have c14b0 : decide (0 ≤ x7_2) = true := decide_eq_true c14
         clear c14
         replace H := Option.bind_eq_some_iff.mp H
         obtain ⟨⟨t444, t445, t446, t447, t448, t449, t450, t451, t452, t453, t454, t455, t456, t457, t458, t459, t460, t461⟩, A150, H⟩ := H
         replace H : (if x7_2 < (t439.length : Int) then (if (!(t444 == ((rd_T35 t439 x7_2).f0)) || ((!(t445 == ((rd_T35 t439 x7_2).f1.f0)) || ((!(t446 == ((rd_T35 t439 x7_2).f1.f1.f0)) || (!(t447 == ((rd_T35 t439 x7_2).f1.f1.f1)) || (!(t448 == ((rd_T35 t439 x7_2).f1.f1.f2)) || (!(t449 == ((rd_T35 t439 x7_2).f1.f1.f3)) || (!(t450 == ((rd_T35 t439 x7_2).f1.f1.f4)) || (!(t451 == ((rd_T35 t439 x7_2).f1.f1.f5)) || (!(t452 == ((rd_T35 t439 x7_2).f1.f1.f6)) || (!(t453 == ((rd_T35 t439 x7_2).f1.f1.f7)) || (!(t454 == ((rd_T35 t439 x7_2).f1.f1.f8)) || (!(t455 == ((rd_T35 t439 x7_2).f1.f1.f9)) || (!(t456 == ((rd_T35 t439 x7_2).f1.f1.f10))))))))))))))) || (!(t457.toList == (((rd_T35 t439 x7_2).f2).toList)) || ((!(t458 == ((rd_T35 t439 x7_2).f3.f0)) || (!(t459 == ((rd_T35 t439 x7_2).f3.f1)) || (!(t460 == ((rd_T35 t439 x7_2).f3.f2)) || (!(t461 == ((rd_T35 t439 x7_2).f3.f3)))))))))) = true then (none) else (berthinglaw28_ScriptReads.l0 k2 t435 t439 (wrap64 (x7_2 + 1)))) else (none)) = some r := H
         have A15 := Aside0.mk A150
         clear A150
         by_cases c16 : x7_2 < (t439.length : Int)
         ·rw [if_pos c16] at H
          have c16b0 : decide (x7_2 < (t439.length : Int)) = true := decide_eq_true c16
          clear c16
          by_cases c17 : (!(t444 == ((rd_T35 t439 x7_2).f0)) || ((!(t445 == ((rd_T35 t439 x7_2).f1.f0)) || ((!(t446 == ((rd_T35 t439 x7_2).f1.f1.f0)) || (!(t447 == ((rd_T35 t439 x7_2).f1.f1.f1)) || (!(t448 == ((rd_T35 t439 x7_2).f1.f1.f2)) || (!(t449 == ((rd_T35 t439 x7_2).f1.f1.f3)) || (!(t450 == ((rd_T35 t439 x7_2).f1.f1.f4)) || (!(t451 == ((rd_T35 t439 x7_2).f1.f1.f5)) || (!(t452 == ((rd_T35 t439 x7_2).f1.f1.f6)) || (!(t453 == ((rd_T35 t439 x7_2).f1.f1.f7)) || (!(t454 == ((rd_T35 t439 x7_2).f1.f1.f8)) || (!(t455 == ((rd_T35 t439 x7_2).f1.f1.f9)) || (!(t456 == ((rd_T35 t439 x7_2).f1.f1.f10))))))))))))))) || (!(t457.toList == (((rd_T35 t439 x7_2).f2).toList)) || ((!(t458 == ((rd_T35 t439 x7_2).f3.f0)) || (!(t459 == ((rd_T35 t439 x7_2).f3.f1)) || (!(t460 == ((rd_T35 t439 x7_2).f3.f2)) || (!(t461 == ((rd_T35 t439 x7_2).f3.f3)))))))))) = true
          ·rw [if_pos c17] at H
           exact absurd H (by simp)
          ·rw [if_neg c17] at H
           have c17b0 : (!(t444 == ((rd_T35 t439 x7_2).f0)) || ((!(t445 == ((rd_T35 t439 x7_2).f1.f0)) || ((!(t446 == ((rd_T35 t439 x7_2).f1.f1.f0)) || (!(t447 == ((rd_T35 t439 x7_2).f1.f1.f1)) || (!(t448 == ((rd_T35 t439 x7_2).f1.f1.f2)) || (!(t449 == ((rd_T35 t439 x7_2).f1.f1.f3)) || (!(t450 == ((rd_T35 t439 x7_2).f1.f1.f4)) || (!(t451 == ((rd_T35 t439 x7_2).f1.f1.f5)) || (!(t452 == ((rd_T35 t439 x7_2).f1.f1.f6)) || (!(t453 == ((rd_T35 t439 x7_2).f1.f1.f7)) || (!(t454 == ((rd_T35 t439 x7_2).f1.f1.f8)) || (!(t455 == ((rd_T35 t439 x7_2).f1.f1.f9)) || (!(t456 == ((rd_T35 t439 x7_2).f1.f1.f10))))))))))))))) || (!(t457.toList == (((rd_T35 t439 x7_2).f2).toList)) || ((!(t458 == ((rd_T35 t439 x7_2).f3.f0)) || (!(t459 == ((rd_T35 t439 x7_2).f3.f1)) || (!(t460 == ((rd_T35 t439 x7_2).f3.f2)) || (!(t461 == ((rd_T35 t439 x7_2).f3.f3)))))))))) = false := by simpa using c17
           clear c17
           have H' := Aside0.mk H
           clear H
           obtain ⟨Ao18, co18, eo18⟩ := Kd.R_slice HO_3.out
           subst eo18
           try go_wp2
           have n0_ := Aside0.mk (Kd.R_drew HO_3.out)
           have n1_ := Aside0.mk (Kd.R_drew HO_5.out)
           have n2_ := Aside0.mk (below_drew1 HB.out)
           clear HO_3
           clear HO_5
           clear HB
           have HO_3 := n0_
           have HO_5 := n1_
           have HB := n2_
           clear n0_ n1_ n2_
           have p443 : 0 ≤ (x7_2 : Int) := of_decide_eq_true (by first | (with_reducible assumption) | assumption)
           have q443 : x7_2 < (t435.length : Int) := of_decide_eq_true (by first | (with_reducible assumption) | assumption)
           obtain ⟨ad443, e443, hx443_0, hx443_1, hx443_2, hx443_3, hx443_4, hx443_5, hx443_6, hx443_7, hx443_8, hx443_9, hx443_10, hx443_11, hx443_12, hx443_13, hx443_14, hx443_15, hx443_16, hx443_17, hx443_18⟩ := at_T42 (Kd.R_reads' HO_3.out).2.2 x7_2 p443 q443
           cases e443
           replace p443 := eq_true p443
           replace q443 := eq_true q443
           obtain ⟨Ao20, co20, eo20⟩ := Kd.R_slice HO_5.out
           (first | subst eo20 | (injection eo20 with f1_ f2_ f3_; have f4_ := f1_.symm; have f5_ := f3_.symm; clear f1_ f2_ f3_; subst f4_; subst f5_))
           have p462 : 0 ≤ (x7_2 : Int) := of_decide_eq_true (by first | (with_reducible assumption) | assumption)
           have q462 : x7_2 < (t439.length : Int) := of_decide_eq_true (by first | (with_reducible assumption) | assumption)
           obtain ⟨ad462, e462, hx462_0, hx462_1, hx462_2, hx462_3, hx462_4, hx462_5, hx462_6, hx462_7, hx462_8, hx462_9, hx462_10, hx462_11, hx462_12, hx462_13, hx462_14, hx462_15, hx462_16, hx462_17⟩ := at_T35 (Kd.R_reads' HO_5.out).2.2 x7_2 p462 q462
           cases e462
           replace p462 := eq_true p462
           replace q462 := eq_true q462
           refine start_ (n := 10) (S := fun w' => w'.cell? (ad443.add ((x7_2).toNat * 19)) = some (.int .i64 ((rd_T42 t435 x7_2).f0)) ∧ w'.cell? ⟨(ad443.add ((x7_2).toNat * 19)).block, (ad443.add ((x7_2).toNat * 19)).off + 1, none⟩ = some (.int .i64 ((rd_T42 t435 x7_2).f1.f0)) ∧ w'.cell? ⟨(ad443.add ((x7_2).toNat * 19)).block, (ad443.add ((x7_2).toNat * 19)).off + 2, none⟩ = some (.int .i64 ((rd_T42 t435 x7_2).f1.f1)) ∧ w'.cell? ⟨(ad443.add ((x7_2).toNat * 19)).block, (ad443.add ((x7_2).toNat * 19)).off + 3, none⟩ = some (.int .i64 ((rd_T42 t435 x7_2).f1.f2)) ∧ w'.cell? ⟨(ad443.add ((x7_2).toNat * 19)).block, (ad443.add ((x7_2).toNat * 19)).off + 4, none⟩ = some (.int .i64 ((rd_T42 t435 x7_2).f1.f3)) ∧ w'.cell? ⟨(ad443.add ((x7_2).toNat * 19)).block, (ad443.add ((x7_2).toNat * 19)).off + 5, none⟩ = some (.int .i64 ((rd_T42 t435 x7_2).f1.f4)) ∧ w'.cell? ⟨(ad443.add ((x7_2).toNat * 19)).block, (ad443.add ((x7_2).toNat * 19)).off + 6, none⟩ = some (.int .i64 ((rd_T42 t435 x7_2).f1.f5)) ∧ w'.cell? ⟨(ad443.add ((x7_2).toNat * 19)).block, (ad443.add ((x7_2).toNat * 19)).off + 7, none⟩ = some (.int .i64 ((rd_T42 t435 x7_2).f1.f6)) ∧ w'.cell? ⟨(ad443.add ((x7_2).toNat * 19)).block, (ad443.add ((x7_2).toNat * 19)).off + 8, none⟩ = some (.int .i64 ((rd_T42 t435 x7_2).f1.f7)) ∧ w'.cell? ⟨(ad443.add ((x7_2).toNat * 19)).block, (ad443.add ((x7_2).toNat * 19)).off + 9, none⟩ = some (.int .i64 ((rd_T42 t435 x7_2).f1.f8)) ∧ w'.cell? ⟨(ad443.add ((x7_2).toNat * 19)).block, (ad443.add ((x7_2).toNat * 19)).off + 10, none⟩ = some (.int .i64 ((rd_T42 t435 x7_2).f1.f9)) ∧ w'.cell? ⟨(ad443.add ((x7_2).toNat * 19)).block, (ad443.add ((x7_2).toNat * 19)).off + 11, none⟩ = some (.int .i64 ((rd_T42 t435 x7_2).f1.f10)) ∧ w'.cell? ⟨(ad443.add ((x7_2).toNat * 19)).block, (ad443.add ((x7_2).toNat * 19)).off + 12, none⟩ = some (.bool ((rd_T42 t435 x7_2).f1.f11)) ∧ w'.cell? ⟨(ad443.add ((x7_2).toNat * 19)).block, (ad443.add ((x7_2).toNat * 19)).off + 13, none⟩ = some (.string ((rd_T42 t435 x7_2).f2)) ∧ w'.cell? ⟨(ad443.add ((x7_2).toNat * 19)).block, (ad443.add ((x7_2).toNat * 19)).off + 14, none⟩ = some (.int .i64 ((rd_T42 t435 x7_2).f3)) ∧ w'.cell? ⟨(ad443.add ((x7_2).toNat * 19)).block, (ad443.add ((x7_2).toNat * 19)).off + 15, none⟩ = some (.int .i64 ((rd_T42 t435 x7_2).f4.f0)) ∧ w'.cell? ⟨(ad443.add ((x7_2).toNat * 19)).block, (ad443.add ((x7_2).toNat * 19)).off + 16, none⟩ = some (.int .i64 ((rd_T42 t435 x7_2).f4.f1)) ∧ w'.cell? ⟨(ad443.add ((x7_2).toNat * 19)).block, (ad443.add ((x7_2).toNat * 19)).off + 17, none⟩ = some (.int .i64 ((rd_T42 t435 x7_2).f4.f2)) ∧ w'.cell? ⟨(ad443.add ((x7_2).toNat * 19)).block, (ad443.add ((x7_2).toNat * 19)).off + 18, none⟩ = some (.int .i64 ((rd_T42 t435 x7_2).f4.f3)) ∧ w'.cell? (ad462.add ((x7_2).toNat * 18)) = some (.int .i64 ((rd_T35 t439 x7_2).f0)) ∧ w'.cell? ⟨(ad462.add ((x7_2).toNat * 18)).block, (ad462.add ((x7_2).toNat * 18)).off + 1, none⟩ = some (.int .i64 ((rd_T35 t439 x7_2).f1.f0)) ∧ w'.cell? ⟨(ad462.add ((x7_2).toNat * 18)).block, (ad462.add ((x7_2).toNat * 18)).off + 2, none⟩ = some (.int .i64 ((rd_T35 t439 x7_2).f1.f1.f0)) ∧ w'.cell? ⟨(ad462.add ((x7_2).toNat * 18)).block, (ad462.add ((x7_2).toNat * 18)).off + 3, none⟩ = some (.int .i64 ((rd_T35 t439 x7_2).f1.f1.f1)) ∧ w'.cell? ⟨(ad462.add ((x7_2).toNat * 18)).block, (ad462.add ((x7_2).toNat * 18)).off + 4, none⟩ = some (.int .i64 ((rd_T35 t439 x7_2).f1.f1.f2)) ∧ w'.cell? ⟨(ad462.add ((x7_2).toNat * 18)).block, (ad462.add ((x7_2).toNat * 18)).off + 5, none⟩ = some (.int .i64 ((rd_T35 t439 x7_2).f1.f1.f3)) ∧ w'.cell? ⟨(ad462.add ((x7_2).toNat * 18)).block, (ad462.add ((x7_2).toNat * 18)).off + 6, none⟩ = some (.int .i64 ((rd_T35 t439 x7_2).f1.f1.f4)) ∧ w'.cell? ⟨(ad462.add ((x7_2).toNat * 18)).block, (ad462.add ((x7_2).toNat * 18)).off + 7, none⟩ = some (.int .i64 ((rd_T35 t439 x7_2).f1.f1.f5)) ∧ w'.cell? ⟨(ad462.add ((x7_2).toNat * 18)).block, (ad462.add ((x7_2).toNat * 18)).off + 8, none⟩ = some (.int .i64 ((rd_T35 t439 x7_2).f1.f1.f6)) ∧ w'.cell? ⟨(ad462.add ((x7_2).toNat * 18)).block, (ad462.add ((x7_2).toNat * 18)).off + 9, none⟩ = some (.int .i64 ((rd_T35 t439 x7_2).f1.f1.f7)) ∧ w'.cell? ⟨(ad462.add ((x7_2).toNat * 18)).block, (ad462.add ((x7_2).toNat * 18)).off + 10, none⟩ = some (.int .i64 ((rd_T35 t439 x7_2).f1.f1.f8)) ∧ w'.cell? ⟨(ad462.add ((x7_2).toNat * 18)).block, (ad462.add ((x7_2).toNat * 18)).off + 11, none⟩ = some (.int .i64 ((rd_T35 t439 x7_2).f1.f1.f9)) ∧ w'.cell? ⟨(ad462.add ((x7_2).toNat * 18)).block, (ad462.add ((x7_2).toNat * 18)).off + 12, none⟩ = some (.int .i64 ((rd_T35 t439 x7_2).f1.f1.f10)) ∧ w'.cell? ⟨(ad462.add ((x7_2).toNat * 18)).block, (ad462.add ((x7_2).toNat * 18)).off + 13, none⟩ = some (.string ((rd_T35 t439 x7_2).f2)) ∧ w'.cell? ⟨(ad462.add ((x7_2).toNat * 18)).block, (ad462.add ((x7_2).toNat * 18)).off + 14, none⟩ = some (.int .i64 ((rd_T35 t439 x7_2).f3.f0)) ∧ w'.cell? ⟨(ad462.add ((x7_2).toNat * 18)).block, (ad462.add ((x7_2).toNat * 18)).off + 15, none⟩ = some (.int .i64 ((rd_T35 t439 x7_2).f3.f1)) ∧ w'.cell? ⟨(ad462.add ((x7_2).toNat * 18)).block, (ad462.add ((x7_2).toNat * 18)).off + 16, none⟩ = some (.int .i64 ((rd_T35 t439 x7_2).f3.f2)) ∧ w'.cell? ⟨(ad462.add ((x7_2).toNat * 18)).block, (ad462.add ((x7_2).toNat * 18)).off + 17, none⟩ = some (.int .i64 ((rd_T35 t439 x7_2).f3.f3))) (ds := []) #[false, false, false, false, false, false, false, false, false, false] (by kernel_rfl) rfl rfl ⟨hx443_0, hx443_1, hx443_2, hx443_3, hx443_4, hx443_5, hx443_6, hx443_7, hx443_8, hx443_9, hx443_10, hx443_11, hx443_12, hx443_13, hx443_14, hx443_15, hx443_16, hx443_17, hx443_18, hx462_0, hx462_1, hx462_2, hx462_3, hx462_4, hx462_5, hx462_6, hx462_7, hx462_8, hx462_9, hx462_10, hx462_11, hx462_12, hx462_13, hx462_14, hx462_15, hx462_16, hx462_17⟩ (fun hHeld => ?_); refine with_tabW berthinglaw28_ScriptReads.tab10 berthinglaw28_ScriptReads.bits10 (fun HT_ HW_ => ?_)
           generalize wr.drew = w19 at HO_3 HO_5 HB hx443_0 hx443_1 hx443_10 hx443_11 hx443_12 hx443_13 hx443_14 hx443_15 hx443_16 hx443_17 hx443_18 hx443_2 hx443_3 hx443_4 hx443_5 hx443_6 hx443_7 hx443_8 hx443_9 hx462_0 hx462_1 hx462_10 hx462_11 hx462_12 hx462_13 hx462_14 hx462_15 hx462_16 hx462_17 hx462_2 hx462_3 hx462_4 hx462_5 hx462_6 hx462_7 hx462_8 hx462_9 hHeld ⊢
           refine pure_ (i := 0) (N := some 38) (v := ?_) (a' := ?_) #[true, false, false, false, false, false, false, false, false, false] rfl rfl (any_of HT_.out (by kernel_rfl)) (fun _ _ _ h => h) (Or.inl ⟨by rfl, ?_⟩) ?_ ?_
           rotate_left
           ·intro w'
            go_simp
            with_reducible rfl
           rotate_left
           ·simp only [Act.put, List.setIfInBounds_toArray, List.set_cons_zero, List.set_cons_succ, i64_w, i32_w]
            rfl
           refine pure_ (i := 1) (N := some 39) (v := ?_) (a' := ?_) #[true, true, false, false, false, false, false, false, false, false] rfl rfl (any_of HT_.out (by kernel_rfl)) (fun _ _ _ h => h) (Or.inl ⟨by rfl, ?_⟩) ?_ ?_
           rotate_left
           ·intro w'
            go_simp
            with_reducible rfl
           rotate_left
           ·simp only [Act.put, List.setIfInBounds_toArray, List.set_cons_zero, List.set_cons_succ, i64_w, i32_w]
            rfl
           refine pure_ (i := 2) (N := some 40) (v := ?_) (a' := ?_) #[true, true, true, false, false, false, false, false, false, false] rfl rfl (any_of HT_.out (by kernel_rfl)) (fun _ _ _ h => h) (Or.inl ⟨by rfl, ?_⟩) ?_ ?_
           rotate_left
           ·intro w'
            go_simp
            with_reducible rfl
           rotate_left
           ·simp only [Act.put, List.setIfInBounds_toArray, List.set_cons_zero, List.set_cons_succ, i64_w, i32_w]
            rfl
           refine pure_ (i := 5) (N := some 43) (v := ?_) (a' := ?_) #[true, true, true, false, false, true, false, false, false, false] rfl rfl (any_of HT_.out (by kernel_rfl)) (fun _ _ _ h => h) (Or.inl ⟨by rfl, ?_⟩) ?_ ?_
           rotate_left
           ·intro w'
            go_simp
            with_reducible rfl
           rotate_left
           ·simp only [Act.put, List.setIfInBounds_toArray, List.set_cons_zero, List.set_cons_succ, i64_w, i32_w]
            rfl
           refine pure_ (i := 6) (N := some 44) (v := ?_) (a' := ?_) #[true, true, true, false, false, true, true, false, false, false] rfl rfl (any_of HT_.out (by kernel_rfl)) (fun _ _ _ h => h) (Or.inl ⟨by rfl, ?_⟩) ?_ ?_
           rotate_left
           ·intro w'
            go_simp
            with_reducible rfl
           rotate_left
           ·simp only [Act.put, List.setIfInBounds_toArray, List.set_cons_zero, List.set_cons_succ, i64_w, i32_w]
            rfl
           refine pure_ (i := 7) (N := some 45) (v := ?_) (a' := ?_) #[true, true, true, false, false, true, true, true, false, false] rfl rfl (any_of HT_.out (by kernel_rfl)) (fun _ _ _ h => h) (Or.inl ⟨by rfl, ?_⟩) ?_ ?_
           rotate_left
           ·intro w'
            go_simp
            with_reducible rfl
           rotate_left
           ·simp only [Act.put, List.setIfInBounds_toArray, List.set_cons_zero, List.set_cons_succ, i64_w, i32_w]
            rfl
           refine take_ (i := 3) (N := some 41) (v := ?_) (a' := ?_) #[true, true, true, true, false, true, true, true, false, false] rfl rfl (take_ofW HT_.out HW_.out (by kernel_rfl)) (fun _ _ _ h => h) (Or.inl ⟨by rfl, ?_⟩) hHeld ?_ ?_
           rotate_left
           ·rintro w' ⟨s0, s1, s2, s3, s4, s5, s6, s7, s8, s9, s10, s11, s12, s13, s14, s15, s16, s17, s18, s19, s20, s21, s22, s23, s24, s25, s26, s27, s28, s29, s30, s31, s32, s33, s34, s35, s36⟩
            go_simp
            with_reducible rfl
           rotate_left
           ·simp only [Act.put, List.setIfInBounds_toArray, List.set_cons_zero, List.set_cons_succ, i64_w, i32_w]
            rfl
           refine take_ (i := 8) (N := some 46) (v := ?_) (a' := ?_) #[true, true, true, true, false, true, true, true, true, false] rfl rfl (take_ofW HT_.out HW_.out (by kernel_rfl)) (fun _ _ _ h => h) (Or.inl ⟨by rfl, ?_⟩) hHeld ?_ ?_
           rotate_left
           ·rintro w' ⟨s0, s1, s2, s3, s4, s5, s6, s7, s8, s9, s10, s11, s12, s13, s14, s15, s16, s17, s18, s19, s20, s21, s22, s23, s24, s25, s26, s27, s28, s29, s30, s31, s32, s33, s34, s35, s36⟩
            go_simp
            with_reducible rfl
           rotate_left
           ·simp only [Act.put, List.setIfInBounds_toArray, List.set_cons_zero, List.set_cons_succ, i64_w, i32_w]
            rfl
           refine one_ (i := 4) (N := some 42) #[true, true, true, true, true, true, true, true, true, false] rfl rfl (one_of HT_.out (by kernel_rfl)) (by decide) (fun K hK => ?_)
           refine goes_ Tryd.func8 (by kernel_rfl) rfl #[.agg #[.int .i64 ((rd_T42 t435 x7_2).f0), .int .i64 ((rd_T42 t435 x7_2).f1.f0), .int .i64 ((rd_T42 t435 x7_2).f1.f1), .int .i64 ((rd_T42 t435 x7_2).f1.f2), .int .i64 ((rd_T42 t435 x7_2).f1.f3), .int .i64 ((rd_T42 t435 x7_2).f1.f4), .int .i64 ((rd_T42 t435 x7_2).f1.f5), .int .i64 ((rd_T42 t435 x7_2).f1.f6), .int .i64 ((rd_T42 t435 x7_2).f1.f7), .int .i64 ((rd_T42 t435 x7_2).f1.f8), .int .i64 ((rd_T42 t435 x7_2).f1.f9), .int .i64 ((rd_T42 t435 x7_2).f1.f10), .bool ((rd_T42 t435 x7_2).f1.f11), .string ((rd_T42 t435 x7_2).f2), .int .i64 ((rd_T42 t435 x7_2).f3), .int .i64 ((rd_T42 t435 x7_2).f4.f0), .int .i64 ((rd_T42 t435 x7_2).f4.f1), .int .i64 ((rd_T42 t435 x7_2).f4.f2), .int .i64 ((rd_T42 t435 x7_2).f4.f3)]] (by rfl) rfl rfl (by (try simp only [List.map_toArray, List.map_cons, List.map_nil]); first | done | rfl | (simp only [List.length_drop, List.length_take]; rfl)) ?_
           with_reducible refine (berthinglaw28_Own.calls k2 ((rd_T42 t435 x7_2).f0) ((rd_T42 t435 x7_2).f1.f0) ((rd_T42 t435 x7_2).f1.f1) ((rd_T42 t435 x7_2).f1.f2) ((rd_T42 t435 x7_2).f1.f3) ((rd_T42 t435 x7_2).f1.f4) ((rd_T42 t435 x7_2).f1.f5) ((rd_T42 t435 x7_2).f1.f6) ((rd_T42 t435 x7_2).f1.f7) ((rd_T42 t435 x7_2).f1.f8) ((rd_T42 t435 x7_2).f1.f9) ((rd_T42 t435 x7_2).f1.f10) ((rd_T42 t435 x7_2).f1.f11) ((rd_T42 t435 x7_2).f2) ((rd_T42 t435 x7_2).f3) ((rd_T42 t435 x7_2).f4.f0) ((rd_T42 t435 x7_2).f4.f1) ((rd_T42 t435 x7_2).f4.f2) ((rd_T42 t435 x7_2).f4.f3) t444 t445 t446 t447 t448 t449 t450 t451 t452 t453 t454 t455 t456 t457 t458 t459 t460 t461 _ A15.out).mono ?_
           rintro e w21 ⟨rfl, hb⟩
           have HS0_ := (hb.cell (World.block_lt_of_cell? _ _ (hHeld.1))).trans (hHeld.1)
           have HS1_ := (hb.cell (World.block_lt_of_cell? _ _ (hHeld.2.1))).trans (hHeld.2.1)
           have HS2_ := (hb.cell (World.block_lt_of_cell? _ _ (hHeld.2.2.1))).trans (hHeld.2.2.1)
           have HS3_ := (hb.cell (World.block_lt_of_cell? _ _ (hHeld.2.2.2.1))).trans (hHeld.2.2.2.1)
           have HS4_ := (hb.cell (World.block_lt_of_cell? _ _ (hHeld.2.2.2.2.1))).trans (hHeld.2.2.2.2.1)
           have HS5_ := (hb.cell (World.block_lt_of_cell? _ _ (hHeld.2.2.2.2.2.1))).trans (hHeld.2.2.2.2.2.1)
           have HS6_ := (hb.cell (World.block_lt_of_cell? _ _ (hHeld.2.2.2.2.2.2.1))).trans (hHeld.2.2.2.2.2.2.1)
           have HS7_ := (hb.cell (World.block_lt_of_cell? _ _ (hHeld.2.2.2.2.2.2.2.1))).trans (hHeld.2.2.2.2.2.2.2.1)
           have HS8_ := (hb.cell (World.block_lt_of_cell? _ _ (hHeld.2.2.2.2.2.2.2.2.1))).trans (hHeld.2.2.2.2.2.2.2.2.1)
           have HS9_ := (hb.cell (World.block_lt_of_cell? _ _ (hHeld.2.2.2.2.2.2.2.2.2.1))).trans (hHeld.2.2.2.2.2.2.2.2.2.1)
           have HS10_ := (hb.cell (World.block_lt_of_cell? _ _ (hHeld.2.2.2.2.2.2.2.2.2.2.1))).trans (hHeld.2.2.2.2.2.2.2.2.2.2.1)
           have HS11_ := (hb.cell (World.block_lt_of_cell? _ _ (hHeld.2.2.2.2.2.2.2.2.2.2.2.1))).trans (hHeld.2.2.2.2.2.2.2.2.2.2.2.1)
           have HS12_ := (hb.cell (World.block_lt_of_cell? _ _ (hHeld.2.2.2.2.2.2.2.2.2.2.2.2.1))).trans (hHeld.2.2.2.2.2.2.2.2.2.2.2.2.1)
           have HS13_ := (hb.cell (World.block_lt_of_cell? _ _ (hHeld.2.2.2.2.2.2.2.2.2.2.2.2.2.1))).trans (hHeld.2.2.2.2.2.2.2.2.2.2.2.2.2.1)
           have HS14_ := (hb.cell (World.block_lt_of_cell? _ _ (hHeld.2.2.2.2.2.2.2.2.2.2.2.2.2.2.1))).trans (hHeld.2.2.2.2.2.2.2.2.2.2.2.2.2.2.1)
           have HS15_ := (hb.cell (World.block_lt_of_cell? _ _ (hHeld.2.2.2.2.2.2.2.2.2.2.2.2.2.2.2.1))).trans (hHeld.2.2.2.2.2.2.2.2.2.2.2.2.2.2.2.1)
           have HS16_ := (hb.cell (World.block_lt_of_cell? _ _ (hHeld.2.2.2.2.2.2.2.2.2.2.2.2.2.2.2.2.1))).trans (hHeld.2.2.2.2.2.2.2.2.2.2.2.2.2.2.2.2.1)
           have HS17_ := (hb.cell (World.block_lt_of_cell? _ _ (hHeld.2.2.2.2.2.2.2.2.2.2.2.2.2.2.2.2.2.1))).trans (hHeld.2.2.2.2.2.2.2.2.2.2.2.2.2.2.2.2.2.1)
           have HS18_ := (hb.cell (World.block_lt_of_cell? _ _ (hHeld.2.2.2.2.2.2.2.2.2.2.2.2.2.2.2.2.2.2.1))).trans (hHeld.2.2.2.2.2.2.2.2.2.2.2.2.2.2.2.2.2.2.1)
           have HS19_ := (hb.cell (World.block_lt_of_cell? _ _ (hHeld.2.2.2.2.2.2.2.2.2.2.2.2.2.2.2.2.2.2.2.1))).trans (hHeld.2.2.2.2.2.2.2.2.2.2.2.2.2.2.2.2.2.2.2.1)
           have HS20_ := (hb.cell (World.block_lt_of_cell? _ _ (hHeld.2.2.2.2.2.2.2.2.2.2.2.2.2.2.2.2.2.2.2.2.1))).trans (hHeld.2.2.2.2.2.2.2.2.2.2.2.2.2.2.2.2.2.2.2.2.1)
           have HS21_ := (hb.cell (World.block_lt_of_cell? _ _ (hHeld.2.2.2.2.2.2.2.2.2.2.2.2.2.2.2.2.2.2.2.2.2.1))).trans (hHeld.2.2.2.2.2.2.2.2.2.2.2.2.2.2.2.2.2.2.2.2.2.1)
           have HS22_ := (hb.cell (World.block_lt_of_cell? _ _ (hHeld.2.2.2.2.2.2.2.2.2.2.2.2.2.2.2.2.2.2.2.2.2.2.1))).trans (hHeld.2.2.2.2.2.2.2.2.2.2.2.2.2.2.2.2.2.2.2.2.2.2.1)
           have HS23_ := (hb.cell (World.block_lt_of_cell? _ _ (hHeld.2.2.2.2.2.2.2.2.2.2.2.2.2.2.2.2.2.2.2.2.2.2.2.1))).trans (hHeld.2.2.2.2.2.2.2.2.2.2.2.2.2.2.2.2.2.2.2.2.2.2.2.1)
           have HS24_ := (hb.cell (World.block_lt_of_cell? _ _ (hHeld.2.2.2.2.2.2.2.2.2.2.2.2.2.2.2.2.2.2.2.2.2.2.2.2.1))).trans (hHeld.2.2.2.2.2.2.2.2.2.2.2.2.2.2.2.2.2.2.2.2.2.2.2.2.1)
           have HS25_ := (hb.cell (World.block_lt_of_cell? _ _ (hHeld.2.2.2.2.2.2.2.2.2.2.2.2.2.2.2.2.2.2.2.2.2.2.2.2.2.1))).trans (hHeld.2.2.2.2.2.2.2.2.2.2.2.2.2.2.2.2.2.2.2.2.2.2.2.2.2.1)
           have HS26_ := (hb.cell (World.block_lt_of_cell? _ _ (hHeld.2.2.2.2.2.2.2.2.2.2.2.2.2.2.2.2.2.2.2.2.2.2.2.2.2.2.1))).trans (hHeld.2.2.2.2.2.2.2.2.2.2.2.2.2.2.2.2.2.2.2.2.2.2.2.2.2.2.1)
           have HS27_ := (hb.cell (World.block_lt_of_cell? _ _ (hHeld.2.2.2.2.2.2.2.2.2.2.2.2.2.2.2.2.2.2.2.2.2.2.2.2.2.2.2.1))).trans (hHeld.2.2.2.2.2.2.2.2.2.2.2.2.2.2.2.2.2.2.2.2.2.2.2.2.2.2.2.1)
           have HS28_ := (hb.cell (World.block_lt_of_cell? _ _ (hHeld.2.2.2.2.2.2.2.2.2.2.2.2.2.2.2.2.2.2.2.2.2.2.2.2.2.2.2.2.1))).trans (hHeld.2.2.2.2.2.2.2.2.2.2.2.2.2.2.2.2.2.2.2.2.2.2.2.2.2.2.2.2.1)
           have HS29_ := (hb.cell (World.block_lt_of_cell? _ _ (hHeld.2.2.2.2.2.2.2.2.2.2.2.2.2.2.2.2.2.2.2.2.2.2.2.2.2.2.2.2.2.1))).trans (hHeld.2.2.2.2.2.2.2.2.2.2.2.2.2.2.2.2.2.2.2.2.2.2.2.2.2.2.2.2.2.1)
           have HS30_ := (hb.cell (World.block_lt_of_cell? _ _ (hHeld.2.2.2.2.2.2.2.2.2.2.2.2.2.2.2.2.2.2.2.2.2.2.2.2.2.2.2.2.2.2.1))).trans (hHeld.2.2.2.2.2.2.2.2.2.2.2.2.2.2.2.2.2.2.2.2.2.2.2.2.2.2.2.2.2.2.1)
           have HS31_ := (hb.cell (World.block_lt_of_cell? _ _ (hHeld.2.2.2.2.2.2.2.2.2.2.2.2.2.2.2.2.2.2.2.2.2.2.2.2.2.2.2.2.2.2.2.1))).trans (hHeld.2.2.2.2.2.2.2.2.2.2.2.2.2.2.2.2.2.2.2.2.2.2.2.2.2.2.2.2.2.2.2.1)
           have HS32_ := (hb.cell (World.block_lt_of_cell? _ _ (hHeld.2.2.2.2.2.2.2.2.2.2.2.2.2.2.2.2.2.2.2.2.2.2.2.2.2.2.2.2.2.2.2.2.1))).trans (hHeld.2.2.2.2.2.2.2.2.2.2.2.2.2.2.2.2.2.2.2.2.2.2.2.2.2.2.2.2.2.2.2.2.1)
           have HS33_ := (hb.cell (World.block_lt_of_cell? _ _ (hHeld.2.2.2.2.2.2.2.2.2.2.2.2.2.2.2.2.2.2.2.2.2.2.2.2.2.2.2.2.2.2.2.2.2.1))).trans (hHeld.2.2.2.2.2.2.2.2.2.2.2.2.2.2.2.2.2.2.2.2.2.2.2.2.2.2.2.2.2.2.2.2.2.1)
           have HS34_ := (hb.cell (World.block_lt_of_cell? _ _ (hHeld.2.2.2.2.2.2.2.2.2.2.2.2.2.2.2.2.2.2.2.2.2.2.2.2.2.2.2.2.2.2.2.2.2.2.1))).trans (hHeld.2.2.2.2.2.2.2.2.2.2.2.2.2.2.2.2.2.2.2.2.2.2.2.2.2.2.2.2.2.2.2.2.2.2.1)
           have HS35_ := (hb.cell (World.block_lt_of_cell? _ _ (hHeld.2.2.2.2.2.2.2.2.2.2.2.2.2.2.2.2.2.2.2.2.2.2.2.2.2.2.2.2.2.2.2.2.2.2.2.1))).trans (hHeld.2.2.2.2.2.2.2.2.2.2.2.2.2.2.2.2.2.2.2.2.2.2.2.2.2.2.2.2.2.2.2.2.2.2.2.1)
           have HS36_ := (hb.cell (World.block_lt_of_cell? _ _ (hHeld.2.2.2.2.2.2.2.2.2.2.2.2.2.2.2.2.2.2.2.2.2.2.2.2.2.2.2.2.2.2.2.2.2.2.2.2))).trans (hHeld.2.2.2.2.2.2.2.2.2.2.2.2.2.2.2.2.2.2.2.2.2.2.2.2.2.2.2.2.2.2.2.2.2.2.2.2)
           refine ⟨_, rfl, ?_⟩
           have n0_ := Aside0.mk (Kd.R_below (by (with_reducible repeat (first | apply Kd.R_alloc | apply Kd.R_drewN | apply Kd.R_drew)); exact HO_3.out) hb)
           have n1_ := Aside0.mk (Kd.R_below (by (with_reducible repeat (first | apply Kd.R_alloc | apply Kd.R_drewN | apply Kd.R_drew)); exact HO_5.out) hb)
           have n2_ := Aside0.mk (below_step (by repeat (first | (with_reducible first | exact HB.out | apply below_alloc | apply pw_below_drewN | apply below_drew1) | exact HB.out)) hb)
           clear HO_3
           clear HO_5
           clear HB
           have HO_3 := n0_
           have HO_5 := n1_
           have HB := n2_
           clear n0_ n1_ n2_
           (try clear hb)
           (try clear hb2)
           (try clear hk)
           (try clear hi)
           refine hK.out _ _ ⟨HS0_, HS1_, HS2_, HS3_, HS4_, HS5_, HS6_, HS7_, HS8_, HS9_, HS10_, HS11_, HS12_, HS13_, HS14_, HS15_, HS16_, HS17_, HS18_, HS19_, HS20_, HS21_, HS22_, HS23_, HS24_, HS25_, HS26_, HS27_, HS28_, HS29_, HS30_, HS31_, HS32_, HS33_, HS34_, HS35_, HS36_⟩ (fun hHeld => ?_)
           clear hK K
           refine norm_ (a' := ?_) ?_ ?_
           rotate_left
           ·show Act.put _ (some 42) _ = _
            simp only [Act.put, List.setIfInBounds_toArray, List.set_cons_zero, List.set_cons_succ, i64_w, i32_w]
            rfl
           refine pure_ (i := 9) (N := some 47) (v := ?_) (a' := ?_) #[true, true, true, true, true, true, true, true, true, true] rfl rfl (any_of HT_.out (by kernel_rfl)) (fun _ _ _ h => h) (Or.inl ⟨by rfl, ?_⟩) ?_ ?_
           rotate_left
           ·intro w'
            go_simp
            with_reducible rfl
           rotate_left
           ·simp only [Act.put, List.setIfInBounds_toArray, List.set_cons_zero, List.set_cons_succ, i64_w, i32_w]
            rfl
           refine done_ (done_of HT_.out (by kernel_rfl)) ?_
           try go_wp2
           go_roundg k2
           case measure => have := HJ4.out; have := HK2.out; omega
           case rel => exact ⟨(wrap64 (x7_2 + 1)), (by first | rfl | (simp; done) | (simp; unfold wrap64; omega) | (simp [*]; done)), H', ⟨by have := HJ4.out; have := HK2.out; omega⟩, ⟨by (with_reducible repeat (first | apply Kd.R_alloc | apply Kd.R_drewN | apply Kd.R_drew)); exact HO_3.out⟩, ⟨by (with_reducible repeat (first | apply Kd.R_alloc | apply Kd.R_drewN | apply Kd.R_drew)); exact HO_5.out⟩, ⟨by repeat (first | (with_reducible first | exact HB.out | apply below_alloc | apply pw_below_drewN | apply below_drew1) | exact HB.out)⟩⟩
         ·rw [if_neg c16] at H
          exact absurd H (by simp)
        ·rw [if_neg c14] at H
         exact absurd H (by simp)
       ·rw [if_neg c13] at H
        have c13b0 : decide (x7_2 < (t435.length : Int)) = false := decide_eq_false c13
        clear c13
        replace H := Option.bind_eq_some_iff.mp H
        obtain ⟨t463, A220, H⟩ := H
        replace H : (some t463) = some r := H
        have A22 := Aside0.mk A220
        clear A220
        obtain rfl := Option.some.inj H
        obtain ⟨Ao23, co23, eo23⟩ := Kd.R_slice HO_3.out
        subst eo23
        go_wp2_with (first | ((with_reducible refine gate_callee (f := 9) rfl ?_); refine goesL_ (some 48) rfl rfl Tryd.func9 (by kernel_rfl) rfl #[] rfl (by (try simp only [List.map_toArray, List.map_cons, List.map_nil]); first | done | rfl | (simp only [List.length_drop, List.length_take]; rfl)) ?_; (with_reducible refine (berthinglaw28_one.calls k2  t463 _ (Cur.ErrT.go (by repeat (first | (with_reducible first | exact HB.out | apply below_alloc | apply pw_below_drewN | apply below_drew1) | exact HB.out)) hT) A22.out).mono ?_); rintro e w24 ⟨rfl, hb⟩; refine ⟨_, rfl, ?_⟩; have n0_ := Aside0.mk (Kd.R_below (by (with_reducible repeat (first | apply Kd.R_alloc | apply Kd.R_drewN | apply Kd.R_drew)); exact HO_3.out) hb); have n1_ := Aside0.mk (Kd.R_below (by (with_reducible repeat (first | apply Kd.R_alloc | apply Kd.R_drewN | apply Kd.R_drew)); exact HO_5.out) hb); have n2_ := Aside0.mk (below_step (by repeat (first | (with_reducible first | exact HB.out | apply below_alloc | apply pw_below_drewN | apply below_drew1) | exact HB.out)) hb); clear HO_3; clear HO_5; clear HB; have HO_3 := n0_; have HO_5 := n1_; have HB := n2_; clear n0_ n1_ n2_; (try clear hb); (try clear hb2); (try clear hk); (try clear hi)))
        go_ret
        exact ⟨by first | rfl | (simp [errW_none, errW_some] <;> rfl) | (simp [*, errW_none, errW_some] <;> rfl), by repeat (first | (with_reducible first | exact HB.out | apply below_alloc | apply pw_below_drewN | apply below_drew1) | exact HB.out)⟩

/-- THE ONE PURE STATEMENT of berthinglaw28_ScriptReads: yours. -/
def berthinglaw28_ScriptReads.Pure : Prop := ∀ (l0 : List Int), l0.length ≤ maxLen → l0.length * 1 ≤ 140737488351232 → (∀ x ∈ l0, (Lit.int .u8 x).wf = true) → ∃ k, berthinglaw28_ScriptReads.f k l0 = some true
theorem berthinglaw28_ScriptReads.walk (P : berthinglaw28_ScriptReads.Pure) (a0 : Option Addr) (len0 cap0 : Nat) (z0 : List Int) (w : World) (hT : Cur.ErrT w) (w0 : (a0 = none ∧ len0 = 0 ∧ cap0 = 0 ∧ z0 = []) ∨ ∃ x, a0 = some x ∧ len0 ≤ cap0 ∧ cap0 ≤ maxLen ∧ z0.length = cap0 ∧ (∀ i, i < z0.length → w.cell? (x.add i) = some (.int .u8 (z0.getD i 0))) ∧ ∀ n ∈ z0, (Lit.int .u8 n).wf = true) (y0 : len0 * 1 ≤ 140737488351232) :
  Calls Tryd.prog 3 #[.slice a0 len0 cap0] w fun e w' => e = .returned (.bool true) ∧ Below w.heap.size w w' := by
 obtain ⟨l0, rfl, hr0, hm0, hw0, hc0⟩ := ReadsInt.ofRowC w0
 obtain ⟨k, h⟩ := P l0 hm0 y0 hw0
 refine (berthinglaw28_ScriptReads.calls k _ _ l0 true w hT (Kd.C_of_reads (d := (0 : Int)) (h1 := fun _ => rfl) hr0) hc0 h).mono ?_
 rintro e w' ⟨rfl, hd⟩
 exact ⟨rfl, hd⟩

end Go.Proofs.YtkkjjogbfjahgaaDoor.PSc
