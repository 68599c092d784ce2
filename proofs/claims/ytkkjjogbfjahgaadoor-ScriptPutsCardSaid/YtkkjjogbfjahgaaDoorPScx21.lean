/- By a program of this session (the print, with contracts written by hand let in), key Sc: what the functions come to as Lean functions, and the contracts that lead from the Go code to them. Conditions: those of the statements. -/
import Derived.Test.YtkkjjogbfjahgaaDoorPScx0
import Derived.Test.YtkkjjogbfjahgaaDoorPScx4
import Derived.Test.YtkkjjogbfjahgaaDoorPScx18
import Derived.Test.YtkkjjogbfjahgaaDoorPScx19
import Derived.Test.YtkkjjogbfjahgaaDoorPScx20
import Derived.Lib.SliceRun
namespace Go.Proofs.YtkkjjogbfjahgaaDoor.PSc
open Go.RowKit Go.Proofs.YtkkjjogbfjahgaaDoorW.PrintWords Go.Proofs.YtkkjjogbfjahgaaDoorW.PrintLast Go.Proofs.YtkkjjogbfjahgaaDoorW.PrintMore
attribute [local go_sem] max2_int min2_int max_two min_two max_three min_three max_four min_four   -- for this text's walks alone
set_option linter.unusedVariables false
set_option linter.unusedSimpArgs false

attribute [local go_sem high] ix40_0 ix40_1 ix40_2 ix40_3
/-! ### script_put: function 28 -/
def script_put.l0 : Nat → List Int → Int → Int → Int → Int → Int → Option (List Int)
 | 0, _, _, _, _, _, _ => none
 | k + 1, x0, x37, x90037000, x90037001, x90037002, x90037003 => if x37 < 4 then (if x37 = 0 then ((coding_PutInt.f k x0 x90037000).bind fun t267 => (script_put.l0 k t267 (wrap64 (x37 + 1)) x90037000 x90037001 x90037002 x90037003)) else (if x37 = 1 then ((coding_PutInt.f k x0 x90037001).bind fun t270 => (script_put.l0 k t270 (wrap64 (x37 + 1)) x90037000 x90037001 x90037002 x90037003)) else (if x37 = 2 then ((coding_PutInt.f k x0 x90037002).bind fun t273 => (script_put.l0 k t273 (wrap64 (x37 + 1)) x90037000 x90037001 x90037002 x90037003)) else (if x37 = 3 then ((coding_PutInt.f k x0 x90037003).bind fun t276 => (script_put.l0 k t276 (wrap64 (x37 + 1)) x90037000 x90037001 x90037002 x90037003)) else (none))))) else (some x0)
def script_put.f (k : Nat) (l0 : List Int) (a1_0 : Int) (a1_1 : Int) (a1_2 : Int) (a1_3 : Int) (a1_4 : Int) (a1_5 : Int) (a1_6 : Int) (a1_7 : Int) (a1_8 : Int) (a1_9 : Int) (a1_10 : Int) (a1_11 : Int) (a1_12 : Bool) (a1_13 : ByteArray) (a1_14 : Int) (a1_15 : Int) (a1_16 : Int) (a1_17 : Int) (a1_18 : Int) : Option (List Int) := (coding_PutInt.f k l0 a1_0).bind fun t252 => (if a1_0 = 0 then ((cmd_Put.f k a1_1 a1_2 a1_3 a1_4 a1_5 a1_6 a1_7 a1_8 a1_9 a1_10 a1_11 a1_12).bind fun t255 => ((coding_PutText.f k t252 (strOfNums t255)).bind fun t258 => (some t258))) else (if a1_0 = 1 then ((coding_PutText.f k t252 a1_13).bind fun t261 => (some t261)) else (if a1_0 = 2 then ((coding_PutInt.f k t252 a1_14).bind fun t264 => (some t264)) else (if a1_0 = 3 then (script_put.l0 k t252 0 a1_15 a1_16 a1_17 a1_18) else (some t252)))))
theorem script_put.mono_l : ∀ k, (∀ y0 y1 y2 y3 y4 y5, LeO (script_put.l0 k y0 y1 y2 y3 y4 y5) (script_put.l0 (k + 1) y0 y1 y2 y3 y4 y5))
 | 0 => fun _ _ _ _ _ _ r h => by simp [script_put.l0] at h
 | k + 1 => by
  have ih0 := script_put.mono_l k
  ·intro y0 y1 y2 y3 y4 y5
   unfold script_put.l0
   repeat' first
   | (with_reducible exact ih0 _ _ _ _ _ _)
   | (with_reducible exact cmd_Put.mono _ _ _ _ _ _ _ _ _ _ _ _ _)
   | (with_reducible exact coding_PutInt.mono _ _ _)
   | (with_reducible exact coding_PutText.mono _ _ _)
   | (with_reducible exact LeO.refl _)
   | (with_reducible exact LeO.none _)
   | (with_reducible refine LeO.ite ?_ ?_)
   | (with_reducible refine LeO.bind ?_ (fun _ => ?_))
   | exact ih0 _ _ _ _ _ _
   | exact cmd_Put.mono _ _ _ _ _ _ _ _ _ _ _ _ _
   | exact coding_PutInt.mono _ _ _
   | exact coding_PutText.mono _ _ _
   | exact LeO.none _
   | refine LeO.ite ?_ ?_
   | refine LeO.bind ?_ (fun _ => ?_)
theorem script_put.mono : ∀ a0 a1 a2 a3 a4 a5 a6 a7 a8 a9 a10 a11 a12 a13 a14 a15 a16 a17 a18 a19 k, LeO (script_put.f k a0 a1 a2 a3 a4 a5 a6 a7 a8 a9 a10 a11 a12 a13 a14 a15 a16 a17 a18 a19) (script_put.f (k + 1) a0 a1 a2 a3 a4 a5 a6 a7 a8 a9 a10 a11 a12 a13 a14 a15 a16 a17 a18 a19) := by
 intro a0 a1 a2 a3 a4 a5 a6 a7 a8 a9 a10 a11 a12 a13 a14 a15 a16 a17 a18 a19 k
 have ih0 := script_put.mono_l k
 unfold script_put.f
 repeat' first
   | (with_reducible exact ih0 _ _ _ _ _ _)
   | (with_reducible exact cmd_Put.mono _ _ _ _ _ _ _ _ _ _ _ _ _)
   | (with_reducible exact coding_PutInt.mono _ _ _)
   | (with_reducible exact coding_PutText.mono _ _ _)
   | (with_reducible exact LeO.refl _)
   | (with_reducible exact LeO.none _)
   | (with_reducible refine LeO.ite ?_ ?_)
   | (with_reducible refine LeO.bind ?_ (fun _ => ?_))
   | exact ih0 _ _ _ _ _ _
   | exact cmd_Put.mono _ _ _ _ _ _ _ _ _ _ _ _ _
   | exact coding_PutInt.mono _ _ _
   | exact coding_PutText.mono _ _ _
   | exact LeO.none _
   | refine LeO.ite ?_ ?_
   | refine LeO.bind ?_ (fun _ => ?_)
set_option maxHeartbeats 8000000 in
set_option maxRecDepth 100000 in
theorem script_put.calls (k : Nat) (A0 : Option Addr) (c0 : Nat) (l0 : List Int) (a1_0 : Int) (a1_1 : Int) (a1_2 : Int) (a1_3 : Int) (a1_4 : Int) (a1_5 : Int) (a1_6 : Int) (a1_7 : Int) (a1_8 : Int) (a1_9 : Int) (a1_10 : Int) (a1_11 : Int) (a1_12 : Bool) (a1_13 : ByteArray) (a1_14 : Int) (a1_15 : Int) (a1_16 : Int) (a1_17 : Int) (a1_18 : Int) (r : List Int) (w : World) (hr0 : Kd.C (Kd.int .u8) w A0 l0.length l0) (hc0 : l0.length ≤ c0) (h : script_put.f k l0 a1_0 a1_1 a1_2 a1_3 a1_4 a1_5 a1_6 a1_7 a1_8 a1_9 a1_10 a1_11 a1_12 a1_13 a1_14 a1_15 a1_16 a1_17 a1_18 = some r) :
  Calls Tryd.prog 28 #[.slice A0 l0.length c0, .agg #[.int .i64 a1_0, .int .i64 a1_1, .int .i64 a1_2, .int .i64 a1_3, .int .i64 a1_4, .int .i64 a1_5, .int .i64 a1_6, .int .i64 a1_7, .int .i64 a1_8, .int .i64 a1_9, .int .i64 a1_10, .int .i64 a1_11, .bool a1_12, .string a1_13, .int .i64 a1_14, .int .i64 a1_15, .int .i64 a1_16, .int .i64 a1_17, .int .i64 a1_18]] w fun e w' => ∃ v0_ : Value, e = .returned (v0_) ∧ Kd.R (Kd.int .u8) 5 w' w.heap.size (fun _ => True) v0_ r ∧ Below w.heap.size w w' := by
 have hu42 := Tryd.underlying42
 have hu39 := Tryd.underlying39
 have hu40 := Tryd.underlying40
 have HR0 := Aside0.mk hr0
 have HC0 := Aside0.mk hc0
 clear hr0 hc0
 have HB := Aside0.mk (Below.refl w.heap.size w)
 have H : ((coding_PutInt.f k l0 a1_0).bind fun t252 => (if a1_0 = 0 then ((cmd_Put.f k a1_1 a1_2 a1_3 a1_4 a1_5 a1_6 a1_7 a1_8 a1_9 a1_10 a1_11 a1_12).bind fun t255 => ((coding_PutText.f k t252 (strOfNums t255)).bind fun t258 => (some t258))) else (if a1_0 = 1 then ((coding_PutText.f k t252 a1_13).bind fun t261 => (some t261)) else (if a1_0 = 2 then ((coding_PutInt.f k t252 a1_14).bind fun t264 => (some t264)) else (if a1_0 = 3 then (script_put.l0 k t252 0 a1_15 a1_16 a1_17 a1_18) else (some t252)))))) = some r := h
 clear h
 replace H := Option.bind_eq_some_iff.mp H
 obtain ⟨t252, A30, H⟩ := H
 replace H : (if a1_0 = 0 then ((cmd_Put.f k a1_1 a1_2 a1_3 a1_4 a1_5 a1_6 a1_7 a1_8 a1_9 a1_10 a1_11 a1_12).bind fun t255 => ((coding_PutText.f k t252 (strOfNums t255)).bind fun t258 => (some t258))) else (if a1_0 = 1 then ((coding_PutText.f k t252 a1_13).bind fun t261 => (some t261)) else (if a1_0 = 2 then ((coding_PutInt.f k t252 a1_14).bind fun t264 => (some t264)) else (if a1_0 = 3 then (script_put.l0 k t252 0 a1_15 a1_16 a1_17 a1_18) else (some t252))))) = some r := H
 have A3 := Aside0.mk A30
 clear A30
 by_cases c4 : a1_0 = 0
 ·rw [if_pos c4] at H
  have c4b0 : (a1_0 == 0) = true := beq_iff_eq.mpr c4
  have c4b1 : (a1_0 != 0) = false := bne_eq_false_iff_eq.mpr c4
  clear c4
  replace H := Option.bind_eq_some_iff.mp H
  obtain ⟨t255, A50, H⟩ := H
  replace H : ((coding_PutText.f k t252 (strOfNums t255)).bind fun t258 => (some t258)) = some r := H
  have A5 := Aside0.mk A50
  clear A50
  replace H := Option.bind_eq_some_iff.mp H
  obtain ⟨t258, A60, H⟩ := H
  replace H : (some t258) = some r := H
  have A6 := Aside0.mk A60
  clear A60
  obtain rfl := Option.some.inj H
  go_enter Tryd.func28, Tryd.ntmps28
  go_wp2_with (first | ((with_reducible refine gate_dst (N := 3) rfl ?_); refine box_event ?hg (N := 3) ?hd (cs := #[.int .i64 a1_0, .int .i64 a1_1, .int .i64 a1_2, .int .i64 a1_3, .int .i64 a1_4, .int .i64 a1_5, .int .i64 a1_6, .int .i64 a1_7, .int .i64 a1_8, .int .i64 a1_9, .int .i64 a1_10, .int .i64 a1_11, .bool a1_12, .string a1_13, .int .i64 a1_14, .int .i64 a1_15, .int .i64 a1_16, .int .i64 a1_17, .int .i64 a1_18]) (t := 42) ?hr ?_; (case hd => rfl); (case hg => rfl); (case hr => first | (go_simp; done) | (go_simp; rfl)); intro gb251 hg w7 hbox hb; have n0_ := Aside0.mk (below_step (by repeat (first | (with_reducible first | exact HB.out | apply below_alloc | apply pw_below_drewN | apply below_drew1) | exact HB.out)) hb); have n1_ := Aside0.mk (hbox); have n2_ := Aside0.mk ((by rw [hg]; exact (below_size (by repeat (first | (with_reducible first | exact HB.out | apply below_alloc | apply pw_below_drewN | apply below_drew1) | exact HB.out))) : w.heap.size ≤ gb251)); have n3_ := Aside0.mk ((by rw [hg]; exact (below_size (by repeat (first | (with_reducible first | exact HB.out | apply below_alloc | apply pw_below_drewN | apply below_drew1) | exact HB.out))) : w.heap.size ≤ gb251)); clear HB; have HB := n0_; have BK251 := n1_; have GW251 := n2_; have GE251 := n3_; clear n0_ n1_ n2_ n3_; clear hb hbox hg; have hcz8_0 : w7.cell? ⟨gb251, 0, none⟩ = some (.int .i64 a1_0) := (blk_cell BK251.out 0).trans rfl; have hcz8_1 : w7.cell? ⟨gb251, 1, none⟩ = some (.int .i64 a1_1) := (blk_cell BK251.out 1).trans rfl; have hcz8_2 : w7.cell? ⟨gb251, 2, none⟩ = some (.int .i64 a1_2) := (blk_cell BK251.out 2).trans rfl; have hcz8_3 : w7.cell? ⟨gb251, 3, none⟩ = some (.int .i64 a1_3) := (blk_cell BK251.out 3).trans rfl; have hcz8_4 : w7.cell? ⟨gb251, 4, none⟩ = some (.int .i64 a1_4) := (blk_cell BK251.out 4).trans rfl; have hcz8_5 : w7.cell? ⟨gb251, 5, none⟩ = some (.int .i64 a1_5) := (blk_cell BK251.out 5).trans rfl; have hcz8_6 : w7.cell? ⟨gb251, 6, none⟩ = some (.int .i64 a1_6) := (blk_cell BK251.out 6).trans rfl; have hcz8_7 : w7.cell? ⟨gb251, 7, none⟩ = some (.int .i64 a1_7) := (blk_cell BK251.out 7).trans rfl; have hcz8_8 : w7.cell? ⟨gb251, 8, none⟩ = some (.int .i64 a1_8) := (blk_cell BK251.out 8).trans rfl; have hcz8_9 : w7.cell? ⟨gb251, 9, none⟩ = some (.int .i64 a1_9) := (blk_cell BK251.out 9).trans rfl; have hcz8_10 : w7.cell? ⟨gb251, 10, none⟩ = some (.int .i64 a1_10) := (blk_cell BK251.out 10).trans rfl; have hcz8_11 : w7.cell? ⟨gb251, 11, none⟩ = some (.int .i64 a1_11) := (blk_cell BK251.out 11).trans rfl; have hcz8_12 : w7.cell? ⟨gb251, 12, none⟩ = some (.bool a1_12) := (blk_cell BK251.out 12).trans rfl; have hcz8_13 : w7.cell? ⟨gb251, 13, none⟩ = some (.string a1_13) := (blk_cell BK251.out 13).trans rfl; have hcz8_14 : w7.cell? ⟨gb251, 14, none⟩ = some (.int .i64 a1_14) := (blk_cell BK251.out 14).trans rfl; have hcz8_15 : w7.cell? ⟨gb251, 15, none⟩ = some (.int .i64 a1_15) := (blk_cell BK251.out 15).trans rfl; have hcz8_16 : w7.cell? ⟨gb251, 16, none⟩ = some (.int .i64 a1_16) := (blk_cell BK251.out 16).trans rfl; have hcz8_17 : w7.cell? ⟨gb251, 17, none⟩ = some (.int .i64 a1_17) := (blk_cell BK251.out 17).trans rfl; have hcz8_18 : w7.cell? ⟨gb251, 18, none⟩ = some (.int .i64 a1_18) := (blk_cell BK251.out 18).trans rfl; have hfz8_0 := blk_frozen BK251.out 0; have hfz8_1 := blk_frozen BK251.out 1; have hfz8_2 := blk_frozen BK251.out 2; have hfz8_3 := blk_frozen BK251.out 3; have hfz8_4 := blk_frozen BK251.out 4; have hfz8_5 := blk_frozen BK251.out 5; have hfz8_6 := blk_frozen BK251.out 6; have hfz8_7 := blk_frozen BK251.out 7; have hfz8_8 := blk_frozen BK251.out 8; have hfz8_9 := blk_frozen BK251.out 9; have hfz8_10 := blk_frozen BK251.out 10; have hfz8_11 := blk_frozen BK251.out 11; have hfz8_12 := blk_frozen BK251.out 12; have hfz8_13 := blk_frozen BK251.out 13; have hfz8_14 := blk_frozen BK251.out 14; have hfz8_15 := blk_frozen BK251.out 15; have hfz8_16 := blk_frozen BK251.out 16; have hfz8_17 := blk_frozen BK251.out 17; have hfz8_18 := blk_frozen BK251.out 18) | ((with_reducible refine gate_callee (f := 49) rfl ?_); refine goesL_ (some 10) rfl rfl Tryd.func49 (by kernel_rfl) rfl #[.slice A0 l0.length c0, .int .i64 a1_0] rfl (by (try simp only [List.map_toArray, List.map_cons, List.map_nil]); first | done | rfl | (simp only [List.length_drop, List.length_take]; rfl)) ?_; (with_reducible refine (coding_PutInt.calls k _ _ l0 a1_0 t252 _ ?side1 ?side2 A3.out).mono ?_); (case side1 => repeat (first | exact (Kd.C_below HR0.out HB.out) | (with_reducible refine Kd.C_alloc ?_ _) | (with_reducible refine Kd.C_drewN ?_ _) | (with_reducible refine Kd.C_drew ?_))); (case side2 => exact HC0.out); rintro e w9 ⟨v253, rfl, ho0, hb⟩; refine ⟨_, rfl, ?_⟩; have n0_ := Aside0.mk (Kd.R_lower ho0 (below_size (by repeat (first | (with_reducible first | exact HB.out | apply below_alloc | apply pw_below_drewN | apply below_drew1 | refine below_set ?_ GE251.out) | exact HB.out)))); have n1_ := Aside0.mk (blk_below (g := gb251) (o := .cells #[.int .i64 a1_0, .int .i64 a1_1, .int .i64 a1_2, .int .i64 a1_3, .int .i64 a1_4, .int .i64 a1_5, .int .i64 a1_6, .int .i64 a1_7, .int .i64 a1_8, .int .i64 a1_9, .int .i64 a1_10, .int .i64 a1_11, .bool a1_12, .string a1_13, .int .i64 a1_14, .int .i64 a1_15, .int .i64 a1_16, .int .i64 a1_17, .int .i64 a1_18] 42 (0, 0)) (by (with_reducible repeat (first | refine blk_drewN ?_ _ | refine blk_drew ?_ | refine blk_alloc ?_ _)); exact BK251.out) hb); have n2_ := Aside0.mk (below_step (by repeat (first | (with_reducible first | exact HB.out | apply below_alloc | apply pw_below_drewN | apply below_drew1 | refine below_set ?_ GE251.out) | exact HB.out)) hb); clear BK251; clear HB; have HO254 := n0_; have BK251 := n1_; have HB := n2_; clear n0_ n1_ n2_; (try clear hb); (try clear hb2); (try clear hk); (try clear hi); (try clear ho0); have hcz10_0 : w9.cell? ⟨gb251, 0, none⟩ = some (.int .i64 a1_0) := (blk_cell BK251.out 0).trans rfl; have hcz10_1 : w9.cell? ⟨gb251, 1, none⟩ = some (.int .i64 a1_1) := (blk_cell BK251.out 1).trans rfl; have hcz10_2 : w9.cell? ⟨gb251, 2, none⟩ = some (.int .i64 a1_2) := (blk_cell BK251.out 2).trans rfl; have hcz10_3 : w9.cell? ⟨gb251, 3, none⟩ = some (.int .i64 a1_3) := (blk_cell BK251.out 3).trans rfl; have hcz10_4 : w9.cell? ⟨gb251, 4, none⟩ = some (.int .i64 a1_4) := (blk_cell BK251.out 4).trans rfl; have hcz10_5 : w9.cell? ⟨gb251, 5, none⟩ = some (.int .i64 a1_5) := (blk_cell BK251.out 5).trans rfl; have hcz10_6 : w9.cell? ⟨gb251, 6, none⟩ = some (.int .i64 a1_6) := (blk_cell BK251.out 6).trans rfl; have hcz10_7 : w9.cell? ⟨gb251, 7, none⟩ = some (.int .i64 a1_7) := (blk_cell BK251.out 7).trans rfl; have hcz10_8 : w9.cell? ⟨gb251, 8, none⟩ = some (.int .i64 a1_8) := (blk_cell BK251.out 8).trans rfl; have hcz10_9 : w9.cell? ⟨gb251, 9, none⟩ = some (.int .i64 a1_9) := (blk_cell BK251.out 9).trans rfl; have hcz10_10 : w9.cell? ⟨gb251, 10, none⟩ = some (.int .i64 a1_10) := (blk_cell BK251.out 10).trans rfl; have hcz10_11 : w9.cell? ⟨gb251, 11, none⟩ = some (.int .i64 a1_11) := (blk_cell BK251.out 11).trans rfl; have hcz10_12 : w9.cell? ⟨gb251, 12, none⟩ = some (.bool a1_12) := (blk_cell BK251.out 12).trans rfl; have hcz10_13 : w9.cell? ⟨gb251, 13, none⟩ = some (.string a1_13) := (blk_cell BK251.out 13).trans rfl; have hcz10_14 : w9.cell? ⟨gb251, 14, none⟩ = some (.int .i64 a1_14) := (blk_cell BK251.out 14).trans rfl; have hcz10_15 : w9.cell? ⟨gb251, 15, none⟩ = some (.int .i64 a1_15) := (blk_cell BK251.out 15).trans rfl; have hcz10_16 : w9.cell? ⟨gb251, 16, none⟩ = some (.int .i64 a1_16) := (blk_cell BK251.out 16).trans rfl; have hcz10_17 : w9.cell? ⟨gb251, 17, none⟩ = some (.int .i64 a1_17) := (blk_cell BK251.out 17).trans rfl; have hcz10_18 : w9.cell? ⟨gb251, 18, none⟩ = some (.int .i64 a1_18) := (blk_cell BK251.out 18).trans rfl; have hfz10_0 := blk_frozen BK251.out 0; have hfz10_1 := blk_frozen BK251.out 1; have hfz10_2 := blk_frozen BK251.out 2; have hfz10_3 := blk_frozen BK251.out 3; have hfz10_4 := blk_frozen BK251.out 4; have hfz10_5 := blk_frozen BK251.out 5; have hfz10_6 := blk_frozen BK251.out 6; have hfz10_7 := blk_frozen BK251.out 7; have hfz10_8 := blk_frozen BK251.out 8; have hfz10_9 := blk_frozen BK251.out 9; have hfz10_10 := blk_frozen BK251.out 10; have hfz10_11 := blk_frozen BK251.out 11; have hfz10_12 := blk_frozen BK251.out 12; have hfz10_13 := blk_frozen BK251.out 13; have hfz10_14 := blk_frozen BK251.out 14; have hfz10_15 := blk_frozen BK251.out 15; have hfz10_16 := blk_frozen BK251.out 16; have hfz10_17 := blk_frozen BK251.out 17; have hfz10_18 := blk_frozen BK251.out 18) | ((with_reducible refine gate_callee (f := 51) rfl ?_); refine goesL_ (some 18) rfl rfl Tryd.func51 (by kernel_rfl) rfl #[.agg #[.int .i64 a1_1, .int .i64 a1_2, .int .i64 a1_3, .int .i64 a1_4, .int .i64 a1_5, .int .i64 a1_6, .int .i64 a1_7, .int .i64 a1_8, .int .i64 a1_9, .int .i64 a1_10, .int .i64 a1_11, .bool a1_12]] rfl (by (try simp only [List.map_toArray, List.map_cons, List.map_nil]); first | done | rfl | (simp only [List.length_drop, List.length_take]; rfl)) ?_; (with_reducible refine (cmd_Put.calls k a1_1 a1_2 a1_3 a1_4 a1_5 a1_6 a1_7 a1_8 a1_9 a1_10 a1_11 a1_12 t255 _ A5.out).mono ?_); rintro e w11 ⟨v256, rfl, ho0, hb⟩; refine ⟨_, rfl, ?_⟩; have n0_ := Aside0.mk (Kd.R_elder' (by (with_reducible repeat (first | apply Kd.R_alloc | apply Kd.R_drewN | apply Kd.R_drew)); exact HO254.out) (Kd.R_base ho0) hb); have n1_ := Aside0.mk (Kd.R_lower (Kd.R_new' ho0 (Kd.R_lt (by (with_reducible repeat (first | apply Kd.R_alloc | apply Kd.R_drewN | apply Kd.R_drew)); exact HO254.out))) (below_size (by repeat (first | (with_reducible first | exact HB.out | apply below_alloc | apply pw_below_drewN | apply below_drew1 | refine below_set ?_ GE251.out) | exact HB.out)))); have n2_ := Aside0.mk (blk_below (g := gb251) (o := .cells #[.int .i64 a1_0, .int .i64 a1_1, .int .i64 a1_2, .int .i64 a1_3, .int .i64 a1_4, .int .i64 a1_5, .int .i64 a1_6, .int .i64 a1_7, .int .i64 a1_8, .int .i64 a1_9, .int .i64 a1_10, .int .i64 a1_11, .bool a1_12, .string a1_13, .int .i64 a1_14, .int .i64 a1_15, .int .i64 a1_16, .int .i64 a1_17, .int .i64 a1_18] 42 (0, 0)) (by (with_reducible repeat (first | refine blk_drewN ?_ _ | refine blk_drew ?_ | refine blk_alloc ?_ _)); exact BK251.out) hb); have n3_ := Aside0.mk (below_step (by repeat (first | (with_reducible first | exact HB.out | apply below_alloc | apply pw_below_drewN | apply below_drew1 | refine below_set ?_ GE251.out) | exact HB.out)) hb); clear HO254; clear BK251; clear HB; have HO254 := n0_; have HO257 := n1_; have BK251 := n2_; have HB := n3_; clear n0_ n1_ n2_ n3_; (try clear hb); (try clear hb2); (try clear hk); (try clear hi); (try clear ho0); have hcv12 := own_string (P := Tryd.prog) Tryd.underlying22 Tryd.underlying5 Tryd.underlying9 (Kd.own_of_R HO257.out); obtain ⟨Ao13, co13, eo13⟩ := Kd.R_slice HO254.out; subst eo13) | ((with_reducible refine gate_callee (f := 50) rfl ?_); refine goesL_ (some 20) rfl rfl Tryd.func50 (by kernel_rfl) rfl #[.slice Ao13 t252.length co13, .string (strOfNums t255)] rfl (by (try simp only [List.map_toArray, List.map_cons, List.map_nil]); first | done | rfl | (simp only [List.length_drop, List.length_take]; rfl)) ?_; (with_reducible refine (coding_PutText.calls k _ _ t252 (strOfNums t255) t258 _ ?side1 ?side2 A6.out).mono ?_); (case side1 => repeat (first | exact (Kd.R_reads' HO254.out).2.2 | (with_reducible refine Kd.C_alloc ?_ _) | (with_reducible refine Kd.C_drewN ?_ _) | (with_reducible refine Kd.C_drew ?_))); (case side2 => exact (Kd.R_reads' HO254.out).2.1); rintro e w14 ⟨v259, rfl, ho0, hb⟩; refine ⟨_, rfl, ?_⟩; have n0_ := Aside0.mk (Kd.R_elder' (by (with_reducible repeat (first | apply Kd.R_alloc | apply Kd.R_drewN | apply Kd.R_drew)); exact HO254.out) (Kd.R_base ho0) hb); have n1_ := Aside0.mk (Kd.R_elder' (by (with_reducible repeat (first | apply Kd.R_alloc | apply Kd.R_drewN | apply Kd.R_drew)); exact HO257.out) (Kd.R_base ho0) hb); have n2_ := Aside0.mk (Kd.R_lower (Kd.R_new' (Kd.R_new' ho0 (Kd.R_lt (by (with_reducible repeat (first | apply Kd.R_alloc | apply Kd.R_drewN | apply Kd.R_drew)); exact HO254.out))) (Kd.R_lt (by (with_reducible repeat (first | apply Kd.R_alloc | apply Kd.R_drewN | apply Kd.R_drew)); exact HO257.out))) (below_size (by repeat (first | (with_reducible first | exact HB.out | apply below_alloc | apply pw_below_drewN | apply below_drew1 | refine below_set ?_ GE251.out) | exact HB.out)))); have n3_ := Aside0.mk (blk_below (g := gb251) (o := .cells #[.int .i64 a1_0, .int .i64 a1_1, .int .i64 a1_2, .int .i64 a1_3, .int .i64 a1_4, .int .i64 a1_5, .int .i64 a1_6, .int .i64 a1_7, .int .i64 a1_8, .int .i64 a1_9, .int .i64 a1_10, .int .i64 a1_11, .bool a1_12, .string a1_13, .int .i64 a1_14, .int .i64 a1_15, .int .i64 a1_16, .int .i64 a1_17, .int .i64 a1_18] 42 (0, 0)) (by (with_reducible repeat (first | refine blk_drewN ?_ _ | refine blk_drew ?_ | refine blk_alloc ?_ _)); exact BK251.out) hb); have n4_ := Aside0.mk (below_step (by repeat (first | (with_reducible first | exact HB.out | apply below_alloc | apply pw_below_drewN | apply below_drew1 | refine below_set ?_ GE251.out) | exact HB.out)) hb); clear HO254; clear HO257; clear BK251; clear HB; have HO254 := n0_; have HO257 := n1_; have HO260 := n2_; have BK251 := n3_; have HB := n4_; clear n0_ n1_ n2_ n3_ n4_; (try clear hb); (try clear hb2); (try clear hk); (try clear hi); (try clear ho0)))
  go_ret
  exact ⟨_, by first | rfl | (simp [errW_none, errW_some] <;> rfl) | (simp [*, errW_none, errW_some] <;> rfl), by (with_reducible repeat (first | apply Kd.R_alloc | apply Kd.R_drewN | apply Kd.R_drew)); exact Kd.R_mono HO260.out (fun _ hk => trivial), by repeat (first | (with_reducible first | exact HB.out | apply below_alloc | apply pw_below_drewN | apply below_drew1 | refine below_set ?_ GE251.out) | exact HB.out)⟩
 ·rw [if_neg c4] at H
  have c4b0 : (a1_0 == 0) = false := beq_eq_false_iff_ne.mpr c4
  have c4b1 : (a1_0 != 0) = true := bne_iff_ne.mpr c4
  by_cases c15 : a1_0 = 1
  ·rw [if_pos c15] at H
   have c15b0 : (a1_0 == 1) = true := beq_iff_eq.mpr c15
   have c15b1 : (a1_0 != 1) = false := bne_eq_false_iff_eq.mpr c15
   clear c15
   replace H := Option.bind_eq_some_iff.mp H
   obtain ⟨t261, A160, H⟩ := H
   replace H : (some t261) = some r := H
   have A16 := Aside0.mk A160
   clear A160
   obtain rfl := Option.some.inj H
   go_enter Tryd.func28, Tryd.ntmps28
   go_wp2_with (first | ((with_reducible refine gate_dst (N := 3) rfl ?_); refine box_event ?hg (N := 3) ?hd (cs := #[.int .i64 a1_0, .int .i64 a1_1, .int .i64 a1_2, .int .i64 a1_3, .int .i64 a1_4, .int .i64 a1_5, .int .i64 a1_6, .int .i64 a1_7, .int .i64 a1_8, .int .i64 a1_9, .int .i64 a1_10, .int .i64 a1_11, .bool a1_12, .string a1_13, .int .i64 a1_14, .int .i64 a1_15, .int .i64 a1_16, .int .i64 a1_17, .int .i64 a1_18]) (t := 42) ?hr ?_; (case hd => rfl); (case hg => rfl); (case hr => first | (go_simp; done) | (go_simp; rfl)); intro gb251 hg w17 hbox hb; have n0_ := Aside0.mk (below_step (by repeat (first | (with_reducible first | exact HB.out | apply below_alloc | apply pw_below_drewN | apply below_drew1) | exact HB.out)) hb); have n1_ := Aside0.mk (hbox); have n2_ := Aside0.mk ((by rw [hg]; exact (below_size (by repeat (first | (with_reducible first | exact HB.out | apply below_alloc | apply pw_below_drewN | apply below_drew1) | exact HB.out))) : w.heap.size ≤ gb251)); have n3_ := Aside0.mk ((by rw [hg]; exact (below_size (by repeat (first | (with_reducible first | exact HB.out | apply below_alloc | apply pw_below_drewN | apply below_drew1) | exact HB.out))) : w.heap.size ≤ gb251)); clear HB; have HB := n0_; have BK251 := n1_; have GW251 := n2_; have GE251 := n3_; clear n0_ n1_ n2_ n3_; clear hb hbox hg; have hcz18_0 : w17.cell? ⟨gb251, 0, none⟩ = some (.int .i64 a1_0) := (blk_cell BK251.out 0).trans rfl; have hcz18_1 : w17.cell? ⟨gb251, 1, none⟩ = some (.int .i64 a1_1) := (blk_cell BK251.out 1).trans rfl; have hcz18_2 : w17.cell? ⟨gb251, 2, none⟩ = some (.int .i64 a1_2) := (blk_cell BK251.out 2).trans rfl; have hcz18_3 : w17.cell? ⟨gb251, 3, none⟩ = some (.int .i64 a1_3) := (blk_cell BK251.out 3).trans rfl; have hcz18_4 : w17.cell? ⟨gb251, 4, none⟩ = some (.int .i64 a1_4) := (blk_cell BK251.out 4).trans rfl; have hcz18_5 : w17.cell? ⟨gb251, 5, none⟩ = some (.int .i64 a1_5) := (blk_cell BK251.out 5).trans rfl; have hcz18_6 : w17.cell? ⟨gb251, 6, none⟩ = some (.int .i64 a1_6) := (blk_cell BK251.out 6).trans rfl; have hcz18_7 : w17.cell? ⟨gb251, 7, none⟩ = some (.int .i64 a1_7) := (blk_cell BK251.out 7).trans rfl; have hcz18_8 : w17.cell? ⟨gb251, 8, none⟩ = some (.int .i64 a1_8) := (blk_cell BK251.out 8).trans rfl; have hcz18_9 : w17.cell? ⟨gb251, 9, none⟩ = some (.int .i64 a1_9) := (blk_cell BK251.out 9).trans rfl; have hcz18_10 : w17.cell? ⟨gb251, 10, none⟩ = some (.int .i64 a1_10) := (blk_cell BK251.out 10).trans rfl; have hcz18_11 : w17.cell? ⟨gb251, 11, none⟩ = some (.int .i64 a1_11) := (blk_cell BK251.out 11).trans rfl; have hcz18_12 : w17.cell? ⟨gb251, 12, none⟩ = some (.bool a1_12) := (blk_cell BK251.out 12).trans rfl; have hcz18_13 : w17.cell? ⟨gb251, 13, none⟩ = some (.string a1_13) := (blk_cell BK251.out 13).trans rfl; have hcz18_14 : w17.cell? ⟨gb251, 14, none⟩ = some (.int .i64 a1_14) := (blk_cell BK251.out 14).trans rfl; have hcz18_15 : w17.cell? ⟨gb251, 15, none⟩ = some (.int .i64 a1_15) := (blk_cell BK251.out 15).trans rfl; have hcz18_16 : w17.cell? ⟨gb251, 16, none⟩ = some (.int .i64 a1_16) := (blk_cell BK251.out 16).trans rfl; have hcz18_17 : w17.cell? ⟨gb251, 17, none⟩ = some (.int .i64 a1_17) := (blk_cell BK251.out 17).trans rfl; have hcz18_18 : w17.cell? ⟨gb251, 18, none⟩ = some (.int .i64 a1_18) := (blk_cell BK251.out 18).trans rfl; have hfz18_0 := blk_frozen BK251.out 0; have hfz18_1 := blk_frozen BK251.out 1; have hfz18_2 := blk_frozen BK251.out 2; have hfz18_3 := blk_frozen BK251.out 3; have hfz18_4 := blk_frozen BK251.out 4; have hfz18_5 := blk_frozen BK251.out 5; have hfz18_6 := blk_frozen BK251.out 6; have hfz18_7 := blk_frozen BK251.out 7; have hfz18_8 := blk_frozen BK251.out 8; have hfz18_9 := blk_frozen BK251.out 9; have hfz18_10 := blk_frozen BK251.out 10; have hfz18_11 := blk_frozen BK251.out 11; have hfz18_12 := blk_frozen BK251.out 12; have hfz18_13 := blk_frozen BK251.out 13; have hfz18_14 := blk_frozen BK251.out 14; have hfz18_15 := blk_frozen BK251.out 15; have hfz18_16 := blk_frozen BK251.out 16; have hfz18_17 := blk_frozen BK251.out 17; have hfz18_18 := blk_frozen BK251.out 18) | ((with_reducible refine gate_callee (f := 49) rfl ?_); refine goesL_ (some 10) rfl rfl Tryd.func49 (by kernel_rfl) rfl #[.slice A0 l0.length c0, .int .i64 a1_0] rfl (by (try simp only [List.map_toArray, List.map_cons, List.map_nil]); first | done | rfl | (simp only [List.length_drop, List.length_take]; rfl)) ?_; (with_reducible refine (coding_PutInt.calls k _ _ l0 a1_0 t252 _ ?side1 ?side2 A3.out).mono ?_); (case side1 => repeat (first | exact (Kd.C_below HR0.out HB.out) | (with_reducible refine Kd.C_alloc ?_ _) | (with_reducible refine Kd.C_drewN ?_ _) | (with_reducible refine Kd.C_drew ?_))); (case side2 => exact HC0.out); rintro e w19 ⟨v253, rfl, ho0, hb⟩; refine ⟨_, rfl, ?_⟩; have n0_ := Aside0.mk (Kd.R_lower ho0 (below_size (by repeat (first | (with_reducible first | exact HB.out | apply below_alloc | apply pw_below_drewN | apply below_drew1 | refine below_set ?_ GE251.out) | exact HB.out)))); have n1_ := Aside0.mk (blk_below (g := gb251) (o := .cells #[.int .i64 a1_0, .int .i64 a1_1, .int .i64 a1_2, .int .i64 a1_3, .int .i64 a1_4, .int .i64 a1_5, .int .i64 a1_6, .int .i64 a1_7, .int .i64 a1_8, .int .i64 a1_9, .int .i64 a1_10, .int .i64 a1_11, .bool a1_12, .string a1_13, .int .i64 a1_14, .int .i64 a1_15, .int .i64 a1_16, .int .i64 a1_17, .int .i64 a1_18] 42 (0, 0)) (by (with_reducible repeat (first | refine blk_drewN ?_ _ | refine blk_drew ?_ | refine blk_alloc ?_ _)); exact BK251.out) hb); have n2_ := Aside0.mk (below_step (by repeat (first | (with_reducible first | exact HB.out | apply below_alloc | apply pw_below_drewN | apply below_drew1 | refine below_set ?_ GE251.out) | exact HB.out)) hb); clear BK251; clear HB; have HO254 := n0_; have BK251 := n1_; have HB := n2_; clear n0_ n1_ n2_; (try clear hb); (try clear hb2); (try clear hk); (try clear hi); (try clear ho0); have hcz20_0 : w19.cell? ⟨gb251, 0, none⟩ = some (.int .i64 a1_0) := (blk_cell BK251.out 0).trans rfl; have hcz20_1 : w19.cell? ⟨gb251, 1, none⟩ = some (.int .i64 a1_1) := (blk_cell BK251.out 1).trans rfl; have hcz20_2 : w19.cell? ⟨gb251, 2, none⟩ = some (.int .i64 a1_2) := (blk_cell BK251.out 2).trans rfl; have hcz20_3 : w19.cell? ⟨gb251, 3, none⟩ = some (.int .i64 a1_3) := (blk_cell BK251.out 3).trans rfl; have hcz20_4 : w19.cell? ⟨gb251, 4, none⟩ = some (.int .i64 a1_4) := (blk_cell BK251.out 4).trans rfl; have hcz20_5 : w19.cell? ⟨gb251, 5, none⟩ = some (.int .i64 a1_5) := (blk_cell BK251.out 5).trans rfl; have hcz20_6 : w19.cell? ⟨gb251, 6, none⟩ = some (.int .i64 a1_6) := (blk_cell BK251.out 6).trans rfl; have hcz20_7 : w19.cell? ⟨gb251, 7, none⟩ = some (.int .i64 a1_7) := (blk_cell BK251.out 7).trans rfl; have hcz20_8 : w19.cell? ⟨gb251, 8, none⟩ = some (.int .i64 a1_8) := (blk_cell BK251.out 8).trans rfl; have hcz20_9 : w19.cell? ⟨gb251, 9, none⟩ = some (.int .i64 a1_9) := (blk_cell BK251.out 9).trans rfl; have hcz20_10 : w19.cell? ⟨gb251, 10, none⟩ = some (.int .i64 a1_10) := (blk_cell BK251.out 10).trans rfl; have hcz20_11 : w19.cell? ⟨gb251, 11, none⟩ = some (.int .i64 a1_11) := (blk_cell BK251.out 11).trans rfl; have hcz20_12 : w19.cell? ⟨gb251, 12, none⟩ = some (.bool a1_12) := (blk_cell BK251.out 12).trans rfl; have hcz20_13 : w19.cell? ⟨gb251, 13, none⟩ = some (.string a1_13) := (blk_cell BK251.out 13).trans rfl; have hcz20_14 : w19.cell? ⟨gb251, 14, none⟩ = some (.int .i64 a1_14) := (blk_cell BK251.out 14).trans rfl; have hcz20_15 : w19.cell? ⟨gb251, 15, none⟩ = some (.int .i64 a1_15) := (blk_cell BK251.out 15).trans rfl; have hcz20_16 : w19.cell? ⟨gb251, 16, none⟩ = some (.int .i64 a1_16) := (blk_cell BK251.out 16).trans rfl; have hcz20_17 : w19.cell? ⟨gb251, 17, none⟩ = some (.int .i64 a1_17) := (blk_cell BK251.out 17).trans rfl; have hcz20_18 : w19.cell? ⟨gb251, 18, none⟩ = some (.int .i64 a1_18) := (blk_cell BK251.out 18).trans rfl; have hfz20_0 := blk_frozen BK251.out 0; have hfz20_1 := blk_frozen BK251.out 1; have hfz20_2 := blk_frozen BK251.out 2; have hfz20_3 := blk_frozen BK251.out 3; have hfz20_4 := blk_frozen BK251.out 4; have hfz20_5 := blk_frozen BK251.out 5; have hfz20_6 := blk_frozen BK251.out 6; have hfz20_7 := blk_frozen BK251.out 7; have hfz20_8 := blk_frozen BK251.out 8; have hfz20_9 := blk_frozen BK251.out 9; have hfz20_10 := blk_frozen BK251.out 10; have hfz20_11 := blk_frozen BK251.out 11; have hfz20_12 := blk_frozen BK251.out 12; have hfz20_13 := blk_frozen BK251.out 13; have hfz20_14 := blk_frozen BK251.out 14; have hfz20_15 := blk_frozen BK251.out 15; have hfz20_16 := blk_frozen BK251.out 16; have hfz20_17 := blk_frozen BK251.out 17; have hfz20_18 := blk_frozen BK251.out 18; obtain ⟨Ao21, co21, eo21⟩ := Kd.R_slice HO254.out; subst eo21) | ((with_reducible refine gate_callee (f := 50) rfl ?_); refine goesL_ (some 26) rfl rfl Tryd.func50 (by kernel_rfl) rfl #[.slice Ao21 t252.length co21, .string a1_13] rfl (by (try simp only [List.map_toArray, List.map_cons, List.map_nil]); first | done | rfl | (simp only [List.length_drop, List.length_take]; rfl)) ?_; (with_reducible refine (coding_PutText.calls k _ _ t252 a1_13 t261 _ ?side1 ?side2 A16.out).mono ?_); (case side1 => repeat (first | exact (Kd.R_reads' HO254.out).2.2 | (with_reducible refine Kd.C_alloc ?_ _) | (with_reducible refine Kd.C_drewN ?_ _) | (with_reducible refine Kd.C_drew ?_))); (case side2 => exact (Kd.R_reads' HO254.out).2.1); rintro e w22 ⟨v262, rfl, ho0, hb⟩; refine ⟨_, rfl, ?_⟩; have n0_ := Aside0.mk (Kd.R_elder' (by (with_reducible repeat (first | apply Kd.R_alloc | apply Kd.R_drewN | apply Kd.R_drew)); exact HO254.out) (Kd.R_base ho0) hb); have n1_ := Aside0.mk (Kd.R_lower (Kd.R_new' ho0 (Kd.R_lt (by (with_reducible repeat (first | apply Kd.R_alloc | apply Kd.R_drewN | apply Kd.R_drew)); exact HO254.out))) (below_size (by repeat (first | (with_reducible first | exact HB.out | apply below_alloc | apply pw_below_drewN | apply below_drew1 | refine below_set ?_ GE251.out) | exact HB.out)))); have n2_ := Aside0.mk (blk_below (g := gb251) (o := .cells #[.int .i64 a1_0, .int .i64 a1_1, .int .i64 a1_2, .int .i64 a1_3, .int .i64 a1_4, .int .i64 a1_5, .int .i64 a1_6, .int .i64 a1_7, .int .i64 a1_8, .int .i64 a1_9, .int .i64 a1_10, .int .i64 a1_11, .bool a1_12, .string a1_13, .int .i64 a1_14, .int .i64 a1_15, .int .i64 a1_16, .int .i64 a1_17, .int .i64 a1_18] 42 (0, 0)) (by (with_reducible repeat (first | refine blk_drewN ?_ _ | refine blk_drew ?_ | refine blk_alloc ?_ _)); exact BK251.out) hb); have n3_ := Aside0.mk (below_step (by repeat (first | (with_reducible first | exact HB.out | apply below_alloc | apply pw_below_drewN | apply below_drew1 | refine below_set ?_ GE251.out) | exact HB.out)) hb); clear HO254; clear BK251; clear HB; have HO254 := n0_; have HO263 := n1_; have BK251 := n2_; have HB := n3_; clear n0_ n1_ n2_ n3_; (try clear hb); (try clear hb2); (try clear hk); (try clear hi); (try clear ho0)))
   go_ret
   exact ⟨_, by first | rfl | (simp [errW_none, errW_some] <;> rfl) | (simp [*, errW_none, errW_some] <;> rfl), by (with_reducible repeat (first | apply Kd.R_alloc | apply Kd.R_drewN | apply Kd.R_drew)); exact Kd.R_mono HO263.out (fun _ hk => trivial), by repeat (first | (with_reducible first | exact HB.out | apply below_alloc | apply pw_below_drewN | apply below_drew1 | refine below_set ?_ GE251.out) | exact HB.out)⟩
  ·rw [if_neg c15] at H
   have c15b0 : (a1_0 == 1) = false := beq_eq_false_iff_ne.mpr c15
   have c15b1 : (a1_0 != 1) = true := bne_iff_ne.mpr c15
   by_cases c23 : a1_0 = 2
   ·rw [if_pos c23] at H
    have c23b0 : (a1_0 == 2) = true := beq_iff_eq.mpr c23
    have c23b1 : (a1_0 != 2) = false := bne_eq_false_iff_eq.mpr c23
    clear c23
    replace H := Option.bind_eq_some_iff.mp H
    obtain ⟨t264, A240, H⟩ := H
    replace H : (some t264) = some r := H
    have A24 := Aside0.mk A240
    clear A240
    obtain rfl := Option.some.inj H
    go_enter Tryd.func28, Tryd.ntmps28
    go_wp2_with (first | ((with_reducible refine gate_dst (N := 3) rfl ?_); refine box_event ?hg (N := 3) ?hd (cs := #[.int .i64 a1_0, .int .i64 a1_1, .int .i64 a1_2, .int .i64 a1_3, .int .i64 a1_4, .int .i64 a1_5, .int .i64 a1_6, .int .i64 a1_7, .int .i64 a1_8, .int .i64 a1_9, .int .i64 a1_10, .int .i64 a1_11, .bool a1_12, .string a1_13, .int .i64 a1_14, .int .i64 a1_15, .int .i64 a1_16, .int .i64 a1_17, .int .i64 a1_18]) (t := 42) ?hr ?_; (case hd => rfl); (case hg => rfl); (case hr => first | (go_simp; done) | (go_simp; rfl)); intro gb251 hg w25 hbox hb; have n0_ := Aside0.mk (below_step (by repeat (first | (with_reducible first | exact HB.out | apply below_alloc | apply pw_below_drewN | apply below_drew1) | exact HB.out)) hb); have n1_ := Aside0.mk (hbox); have n2_ := Aside0.mk ((by rw [hg]; exact (below_size (by repeat (first | (with_reducible first | exact HB.out | apply below_alloc | apply pw_below_drewN | apply below_drew1) | exact HB.out))) : w.heap.size ≤ gb251)); have n3_ := Aside0.mk ((by rw [hg]; exact (below_size (by repeat (first | (with_reducible first | exact HB.out | apply below_alloc | apply pw_below_drewN | apply below_drew1) | exact HB.out))) : w.heap.size ≤ gb251)); clear HB; have HB := n0_; have BK251 := n1_; have GW251 := n2_; have GE251 := n3_; clear n0_ n1_ n2_ n3_; clear hb hbox hg; have hcz26_0 : w25.cell? ⟨gb251, 0, none⟩ = some (.int .i64 a1_0) := (blk_cell BK251.out 0).trans rfl; have hcz26_1 : w25.cell? ⟨gb251, 1, none⟩ = some (.int .i64 a1_1) := (blk_cell BK251.out 1).trans rfl; have hcz26_2 : w25.cell? ⟨gb251, 2, none⟩ = some (.int .i64 a1_2) := (blk_cell BK251.out 2).trans rfl; have hcz26_3 : w25.cell? ⟨gb251, 3, none⟩ = some (.int .i64 a1_3) := (blk_cell BK251.out 3).trans rfl; have hcz26_4 : w25.cell? ⟨gb251, 4, none⟩ = some (.int .i64 a1_4) := (blk_cell BK251.out 4).trans rfl; have hcz26_5 : w25.cell? ⟨gb251, 5, none⟩ = some (.int .i64 a1_5) := (blk_cell BK251.out 5).trans rfl; have hcz26_6 : w25.cell? ⟨gb251, 6, none⟩ = some (.int .i64 a1_6) := (blk_cell BK251.out 6).trans rfl; have hcz26_7 : w25.cell? ⟨gb251, 7, none⟩ = some (.int .i64 a1_7) := (blk_cell BK251.out 7).trans rfl; have hcz26_8 : w25.cell? ⟨gb251, 8, none⟩ = some (.int .i64 a1_8) := (blk_cell BK251.out 8).trans rfl; have hcz26_9 : w25.cell? ⟨gb251, 9, none⟩ = some (.int .i64 a1_9) := (blk_cell BK251.out 9).trans rfl; have hcz26_10 : w25.cell? ⟨gb251, 10, none⟩ = some (.int .i64 a1_10) := (blk_cell BK251.out 10).trans rfl; have hcz26_11 : w25.cell? ⟨gb251, 11, none⟩ = some (.int .i64 a1_11) := (blk_cell BK251.out 11).trans rfl; have hcz26_12 : w25.cell? ⟨gb251, 12, none⟩ = some (.bool a1_12) := (blk_cell BK251.out 12).trans rfl; have hcz26_13 : w25.cell? ⟨gb251, 13, none⟩ = some (.string a1_13) := (blk_cell BK251.out 13).trans rfl; have hcz26_14 : w25.cell? ⟨gb251, 14, none⟩ = some (.int .i64 a1_14) := (blk_cell BK251.out 14).trans rfl; have hcz26_15 : w25.cell? ⟨gb251, 15, none⟩ = some (.int .i64 a1_15) := (blk_cell BK251.out 15).trans rfl; have hcz26_16 : w25.cell? ⟨gb251, 16, none⟩ = some (.int .i64 a1_16) := (blk_cell BK251.out 16).trans rfl; have hcz26_17 : w25.cell? ⟨gb251, 17, none⟩ = some (.int .i64 a1_17) := (blk_cell BK251.out 17).trans rfl; have hcz26_18 : w25.cell? ⟨gb251, 18, none⟩ = some (.int .i64 a1_18) := (blk_cell BK251.out 18).trans rfl; have hfz26_0 := blk_frozen BK251.out 0; have hfz26_1 := blk_frozen BK251.out 1; have hfz26_2 := blk_frozen BK251.out 2; have hfz26_3 := blk_frozen BK251.out 3; have hfz26_4 := blk_frozen BK251.out 4; have hfz26_5 := blk_frozen BK251.out 5; have hfz26_6 := blk_frozen BK251.out 6; have hfz26_7 := blk_frozen BK251.out 7; have hfz26_8 := blk_frozen BK251.out 8; have hfz26_9 := blk_frozen BK251.out 9; have hfz26_10 := blk_frozen BK251.out 10; have hfz26_11 := blk_frozen BK251.out 11; have hfz26_12 := blk_frozen BK251.out 12; have hfz26_13 := blk_frozen BK251.out 13; have hfz26_14 := blk_frozen BK251.out 14; have hfz26_15 := blk_frozen BK251.out 15; have hfz26_16 := blk_frozen BK251.out 16; have hfz26_17 := blk_frozen BK251.out 17; have hfz26_18 := blk_frozen BK251.out 18) | ((with_reducible refine gate_callee (f := 49) rfl ?_); refine goesL_ (some 10) rfl rfl Tryd.func49 (by kernel_rfl) rfl #[.slice A0 l0.length c0, .int .i64 a1_0] rfl (by (try simp only [List.map_toArray, List.map_cons, List.map_nil]); first | done | rfl | (simp only [List.length_drop, List.length_take]; rfl)) ?_; (with_reducible refine (coding_PutInt.calls k _ _ l0 a1_0 t252 _ ?side1 ?side2 A3.out).mono ?_); (case side1 => repeat (first | exact (Kd.C_below HR0.out HB.out) | (with_reducible refine Kd.C_alloc ?_ _) | (with_reducible refine Kd.C_drewN ?_ _) | (with_reducible refine Kd.C_drew ?_))); (case side2 => exact HC0.out); rintro e w27 ⟨v253, rfl, ho0, hb⟩; refine ⟨_, rfl, ?_⟩; have n0_ := Aside0.mk (Kd.R_lower ho0 (below_size (by repeat (first | (with_reducible first | exact HB.out | apply below_alloc | apply pw_below_drewN | apply below_drew1 | refine below_set ?_ GE251.out) | exact HB.out)))); have n1_ := Aside0.mk (blk_below (g := gb251) (o := .cells #[.int .i64 a1_0, .int .i64 a1_1, .int .i64 a1_2, .int .i64 a1_3, .int .i64 a1_4, .int .i64 a1_5, .int .i64 a1_6, .int .i64 a1_7, .int .i64 a1_8, .int .i64 a1_9, .int .i64 a1_10, .int .i64 a1_11, .bool a1_12, .string a1_13, .int .i64 a1_14, .int .i64 a1_15, .int .i64 a1_16, .int .i64 a1_17, .int .i64 a1_18] 42 (0, 0)) (by (with_reducible repeat (first | refine blk_drewN ?_ _ | refine blk_drew ?_ | refine blk_alloc ?_ _)); exact BK251.out) hb); have n2_ := Aside0.mk (below_step (by repeat (first | (with_reducible first | exact HB.out | apply below_alloc | apply pw_below_drewN | apply below_drew1 | refine below_set ?_ GE251.out) | exact HB.out)) hb); clear BK251; clear HB; have HO254 := n0_; have BK251 := n1_; have HB := n2_; clear n0_ n1_ n2_; (try clear hb); (try clear hb2); (try clear hk); (try clear hi); (try clear ho0); have hcz28_0 : w27.cell? ⟨gb251, 0, none⟩ = some (.int .i64 a1_0) := (blk_cell BK251.out 0).trans rfl; have hcz28_1 : w27.cell? ⟨gb251, 1, none⟩ = some (.int .i64 a1_1) := (blk_cell BK251.out 1).trans rfl; have hcz28_2 : w27.cell? ⟨gb251, 2, none⟩ = some (.int .i64 a1_2) := (blk_cell BK251.out 2).trans rfl; have hcz28_3 : w27.cell? ⟨gb251, 3, none⟩ = some (.int .i64 a1_3) := (blk_cell BK251.out 3).trans rfl; have hcz28_4 : w27.cell? ⟨gb251, 4, none⟩ = some (.int .i64 a1_4) := (blk_cell BK251.out 4).trans rfl; have hcz28_5 : w27.cell? ⟨gb251, 5, none⟩ = some (.int .i64 a1_5) := (blk_cell BK251.out 5).trans rfl; have hcz28_6 : w27.cell? ⟨gb251, 6, none⟩ = some (.int .i64 a1_6) := (blk_cell BK251.out 6).trans rfl; have hcz28_7 : w27.cell? ⟨gb251, 7, none⟩ = some (.int .i64 a1_7) := (blk_cell BK251.out 7).trans rfl; have hcz28_8 : w27.cell? ⟨gb251, 8, none⟩ = some (.int .i64 a1_8) := (blk_cell BK251.out 8).trans rfl; have hcz28_9 : w27.cell? ⟨gb251, 9, none⟩ = some (.int .i64 a1_9) := (blk_cell BK251.out 9).trans rfl; have hcz28_10 : w27.cell? ⟨gb251, 10, none⟩ = some (.int .i64 a1_10) := (blk_cell BK251.out 10).trans rfl; have hcz28_11 : w27.cell? ⟨gb251, 11, none⟩ = some (.int .i64 a1_11) := (blk_cell BK251.out 11).trans rfl; have hcz28_12 : w27.cell? ⟨gb251, 12, none⟩ = some (.bool a1_12) := (blk_cell BK251.out 12).trans rfl; have hcz28_13 : w27.cell? ⟨gb251, 13, none⟩ = some (.string a1_13) := (blk_cell BK251.out 13).trans rfl; have hcz28_14 : w27.cell? ⟨gb251, 14, none⟩ = some (.int .i64 a1_14) := (blk_cell BK251.out 14).trans rfl; have hcz28_15 : w27.cell? ⟨gb251, 15, none⟩ = some (.int .i64 a1_15) := (blk_cell BK251.out 15).trans rfl; have hcz28_16 : w27.cell? ⟨gb251, 16, none⟩ = some (.int .i64 a1_16) := (blk_cell BK251.out 16).trans rfl; have hcz28_17 : w27.cell? ⟨gb251, 17, none⟩ = some (.int .i64 a1_17) := (blk_cell BK251.out 17).trans rfl; have hcz28_18 : w27.cell? ⟨gb251, 18, none⟩ = some (.int .i64 a1_18) := (blk_cell BK251.out 18).trans rfl; have hfz28_0 := blk_frozen BK251.out 0; have hfz28_1 := blk_frozen BK251.out 1; have hfz28_2 := blk_frozen BK251.out 2; have hfz28_3 := blk_frozen BK251.out 3; have hfz28_4 := blk_frozen BK251.out 4; have hfz28_5 := blk_frozen BK251.out 5; have hfz28_6 := blk_frozen BK251.out 6; have hfz28_7 := blk_frozen BK251.out 7; have hfz28_8 := blk_frozen BK251.out 8; have hfz28_9 := blk_frozen BK251.out 9; have hfz28_10 := blk_frozen BK251.out 10; have hfz28_11 := blk_frozen BK251.out 11; have hfz28_12 := blk_frozen BK251.out 12; have hfz28_13 := blk_frozen BK251.out 13; have hfz28_14 := blk_frozen BK251.out 14; have hfz28_15 := blk_frozen BK251.out 15; have hfz28_16 := blk_frozen BK251.out 16; have hfz28_17 := blk_frozen BK251.out 17; have hfz28_18 := blk_frozen BK251.out 18; obtain ⟨Ao29, co29, eo29⟩ := Kd.R_slice HO254.out; subst eo29) | ((with_reducible refine gate_callee (f := 49) rfl ?_); refine goesL_ (some 32) rfl rfl Tryd.func49 (by kernel_rfl) rfl #[.slice Ao29 t252.length co29, .int .i64 a1_14] rfl (by (try simp only [List.map_toArray, List.map_cons, List.map_nil]); first | done | rfl | (simp only [List.length_drop, List.length_take]; rfl)) ?_; (with_reducible refine (coding_PutInt.calls k _ _ t252 a1_14 t264 _ ?side1 ?side2 A24.out).mono ?_); (case side1 => repeat (first | exact (Kd.R_reads' HO254.out).2.2 | (with_reducible refine Kd.C_alloc ?_ _) | (with_reducible refine Kd.C_drewN ?_ _) | (with_reducible refine Kd.C_drew ?_))); (case side2 => exact (Kd.R_reads' HO254.out).2.1); rintro e w30 ⟨v265, rfl, ho0, hb⟩; refine ⟨_, rfl, ?_⟩; have n0_ := Aside0.mk (Kd.R_elder' (by (with_reducible repeat (first | apply Kd.R_alloc | apply Kd.R_drewN | apply Kd.R_drew)); exact HO254.out) (Kd.R_base ho0) hb); have n1_ := Aside0.mk (Kd.R_lower (Kd.R_new' ho0 (Kd.R_lt (by (with_reducible repeat (first | apply Kd.R_alloc | apply Kd.R_drewN | apply Kd.R_drew)); exact HO254.out))) (below_size (by repeat (first | (with_reducible first | exact HB.out | apply below_alloc | apply pw_below_drewN | apply below_drew1 | refine below_set ?_ GE251.out) | exact HB.out)))); have n2_ := Aside0.mk (blk_below (g := gb251) (o := .cells #[.int .i64 a1_0, .int .i64 a1_1, .int .i64 a1_2, .int .i64 a1_3, .int .i64 a1_4, .int .i64 a1_5, .int .i64 a1_6, .int .i64 a1_7, .int .i64 a1_8, .int .i64 a1_9, .int .i64 a1_10, .int .i64 a1_11, .bool a1_12, .string a1_13, .int .i64 a1_14, .int .i64 a1_15, .int .i64 a1_16, .int .i64 a1_17, .int .i64 a1_18] 42 (0, 0)) (by (with_reducible repeat (first | refine blk_drewN ?_ _ | refine blk_drew ?_ | refine blk_alloc ?_ _)); exact BK251.out) hb); have n3_ := Aside0.mk (below_step (by repeat (first | (with_reducible first | exact HB.out | apply below_alloc | apply pw_below_drewN | apply below_drew1 | refine below_set ?_ GE251.out) | exact HB.out)) hb); clear HO254; clear BK251; clear HB; have HO254 := n0_; have HO266 := n1_; have BK251 := n2_; have HB := n3_; clear n0_ n1_ n2_ n3_; (try clear hb); (try clear hb2); (try clear hk); (try clear hi); (try clear ho0)))
    go_ret
    exact ⟨_, by first | rfl | (simp [errW_none, errW_some] <;> rfl) | (simp [*, errW_none, errW_some] <;> rfl), by (with_reducible repeat (first | apply Kd.R_alloc | apply Kd.R_drewN | apply Kd.R_drew)); exact Kd.R_mono HO266.out (fun _ hk => trivial), by repeat (first | (with_reducible first | exact HB.out | apply below_alloc | apply pw_below_drewN | apply below_drew1 | refine below_set ?_ GE251.out) | exact HB.out)⟩
   ·rw [if_neg c23] at H
    have c23b0 : (a1_0 == 2) = false := beq_eq_false_iff_ne.mpr c23
    have c23b1 : (a1_0 != 2) = true := bne_iff_ne.mpr c23
    by_cases c31 : a1_0 = 3
    ·rw [if_pos c31] at H
     have c31b0 : (a1_0 == 3) = true := beq_iff_eq.mpr c31
     have c31b1 : (a1_0 != 3) = false := bne_eq_false_iff_eq.mpr c31
     clear c31
     have H' := Aside0.mk H
     clear H
     go_enter Tryd.func28, Tryd.ntmps28
     go_wp2_with (first | ((with_reducible refine gate_dst (N := 3) rfl ?_); refine box_event ?hg (N := 3) ?hd (cs := #[.int .i64 a1_0, .int .i64 a1_1, .int .i64 a1_2, .int .i64 a1_3, .int .i64 a1_4, .int .i64 a1_5, .int .i64 a1_6, .int .i64 a1_7, .int .i64 a1_8, .int .i64 a1_9, .int .i64 a1_10, .int .i64 a1_11, .bool a1_12, .string a1_13, .int .i64 a1_14, .int .i64 a1_15, .int .i64 a1_16, .int .i64 a1_17, .int .i64 a1_18]) (t := 42) ?hr ?_; (case hd => rfl); (case hg => rfl); (case hr => first | (go_simp; done) | (go_simp; rfl)); intro gb251 hg w32 hbox hb; have n0_ := Aside0.mk (below_step (by repeat (first | (with_reducible first | exact HB.out | apply below_alloc | apply pw_below_drewN | apply below_drew1) | exact HB.out)) hb); have n1_ := Aside0.mk (hbox); have n2_ := Aside0.mk ((by rw [hg]; exact (below_size (by repeat (first | (with_reducible first | exact HB.out | apply below_alloc | apply pw_below_drewN | apply below_drew1) | exact HB.out))) : w.heap.size ≤ gb251)); have n3_ := Aside0.mk ((by rw [hg]; exact (below_size (by repeat (first | (with_reducible first | exact HB.out | apply below_alloc | apply pw_below_drewN | apply below_drew1) | exact HB.out))) : w.heap.size ≤ gb251)); clear HB; have HB := n0_; have BK251 := n1_; have GW251 := n2_; have GE251 := n3_; clear n0_ n1_ n2_ n3_; clear hb hbox hg; have hcz33_0 : w32.cell? ⟨gb251, 0, none⟩ = some (.int .i64 a1_0) := (blk_cell BK251.out 0).trans rfl; have hcz33_1 : w32.cell? ⟨gb251, 1, none⟩ = some (.int .i64 a1_1) := (blk_cell BK251.out 1).trans rfl; have hcz33_2 : w32.cell? ⟨gb251, 2, none⟩ = some (.int .i64 a1_2) := (blk_cell BK251.out 2).trans rfl; have hcz33_3 : w32.cell? ⟨gb251, 3, none⟩ = some (.int .i64 a1_3) := (blk_cell BK251.out 3).trans rfl; have hcz33_4 : w32.cell? ⟨gb251, 4, none⟩ = some (.int .i64 a1_4) := (blk_cell BK251.out 4).trans rfl; have hcz33_5 : w32.cell? ⟨gb251, 5, none⟩ = some (.int .i64 a1_5) := (blk_cell BK251.out 5).trans rfl; have hcz33_6 : w32.cell? ⟨gb251, 6, none⟩ = some (.int .i64 a1_6) := (blk_cell BK251.out 6).trans rfl; have hcz33_7 : w32.cell? ⟨gb251, 7, none⟩ = some (.int .i64 a1_7) := (blk_cell BK251.out 7).trans rfl; have hcz33_8 : w32.cell? ⟨gb251, 8, none⟩ = some (.int .i64 a1_8) := (blk_cell BK251.out 8).trans rfl; have hcz33_9 : w32.cell? ⟨gb251, 9, none⟩ = some (.int .i64 a1_9) := (blk_cell BK251.out 9).trans rfl; have hcz33_10 : w32.cell? ⟨gb251, 10, none⟩ = some (.int .i64 a1_10) := (blk_cell BK251.out 10).trans rfl; have hcz33_11 : w32.cell? ⟨gb251, 11, none⟩ = some (.int .i64 a1_11) := (blk_cell BK251.out 11).trans rfl; have hcz33_12 : w32.cell? ⟨gb251, 12, none⟩ = some (.bool a1_12) := (blk_cell BK251.out 12).trans rfl; have hcz33_13 : w32.cell? ⟨gb251, 13, none⟩ = some (.string a1_13) := (blk_cell BK251.out 13).trans rfl; have hcz33_14 : w32.cell? ⟨gb251, 14, none⟩ = some (.int .i64 a1_14) := (blk_cell BK251.out 14).trans rfl; have hcz33_15 : w32.cell? ⟨gb251, 15, none⟩ = some (.int .i64 a1_15) := (blk_cell BK251.out 15).trans rfl; have hcz33_16 : w32.cell? ⟨gb251, 16, none⟩ = some (.int .i64 a1_16) := (blk_cell BK251.out 16).trans rfl; have hcz33_17 : w32.cell? ⟨gb251, 17, none⟩ = some (.int .i64 a1_17) := (blk_cell BK251.out 17).trans rfl; have hcz33_18 : w32.cell? ⟨gb251, 18, none⟩ = some (.int .i64 a1_18) := (blk_cell BK251.out 18).trans rfl; have hfz33_0 := blk_frozen BK251.out 0; have hfz33_1 := blk_frozen BK251.out 1; have hfz33_2 := blk_frozen BK251.out 2; have hfz33_3 := blk_frozen BK251.out 3; have hfz33_4 := blk_frozen BK251.out 4; have hfz33_5 := blk_frozen BK251.out 5; have hfz33_6 := blk_frozen BK251.out 6; have hfz33_7 := blk_frozen BK251.out 7; have hfz33_8 := blk_frozen BK251.out 8; have hfz33_9 := blk_frozen BK251.out 9; have hfz33_10 := blk_frozen BK251.out 10; have hfz33_11 := blk_frozen BK251.out 11; have hfz33_12 := blk_frozen BK251.out 12; have hfz33_13 := blk_frozen BK251.out 13; have hfz33_14 := blk_frozen BK251.out 14; have hfz33_15 := blk_frozen BK251.out 15; have hfz33_16 := blk_frozen BK251.out 16; have hfz33_17 := blk_frozen BK251.out 17; have hfz33_18 := blk_frozen BK251.out 18) | ((with_reducible refine gate_callee (f := 49) rfl ?_); refine goesL_ (some 10) rfl rfl Tryd.func49 (by kernel_rfl) rfl #[.slice A0 l0.length c0, .int .i64 a1_0] rfl (by (try simp only [List.map_toArray, List.map_cons, List.map_nil]); first | done | rfl | (simp only [List.length_drop, List.length_take]; rfl)) ?_; (with_reducible refine (coding_PutInt.calls k _ _ l0 a1_0 t252 _ ?side1 ?side2 A3.out).mono ?_); (case side1 => repeat (first | exact (Kd.C_below HR0.out HB.out) | (with_reducible refine Kd.C_alloc ?_ _) | (with_reducible refine Kd.C_drewN ?_ _) | (with_reducible refine Kd.C_drew ?_))); (case side2 => exact HC0.out); rintro e w34 ⟨v253, rfl, ho0, hb⟩; refine ⟨_, rfl, ?_⟩; have n0_ := Aside0.mk (Kd.R_lower ho0 (below_size (by repeat (first | (with_reducible first | exact HB.out | apply below_alloc | apply pw_below_drewN | apply below_drew1 | refine below_set ?_ GE251.out) | exact HB.out)))); have n1_ := Aside0.mk (blk_below (g := gb251) (o := .cells #[.int .i64 a1_0, .int .i64 a1_1, .int .i64 a1_2, .int .i64 a1_3, .int .i64 a1_4, .int .i64 a1_5, .int .i64 a1_6, .int .i64 a1_7, .int .i64 a1_8, .int .i64 a1_9, .int .i64 a1_10, .int .i64 a1_11, .bool a1_12, .string a1_13, .int .i64 a1_14, .int .i64 a1_15, .int .i64 a1_16, .int .i64 a1_17, .int .i64 a1_18] 42 (0, 0)) (by (with_reducible repeat (first | refine blk_drewN ?_ _ | refine blk_drew ?_ | refine blk_alloc ?_ _)); exact BK251.out) hb); have n2_ := Aside0.mk (below_step (by repeat (first | (with_reducible first | exact HB.out | apply below_alloc | apply pw_below_drewN | apply below_drew1 | refine below_set ?_ GE251.out) | exact HB.out)) hb); clear BK251; clear HB; have HO254 := n0_; have BK251 := n1_; have HB := n2_; clear n0_ n1_ n2_; (try clear hb); (try clear hb2); (try clear hk); (try clear hi); (try clear ho0); have hcz35_0 : w34.cell? ⟨gb251, 0, none⟩ = some (.int .i64 a1_0) := (blk_cell BK251.out 0).trans rfl; have hcz35_1 : w34.cell? ⟨gb251, 1, none⟩ = some (.int .i64 a1_1) := (blk_cell BK251.out 1).trans rfl; have hcz35_2 : w34.cell? ⟨gb251, 2, none⟩ = some (.int .i64 a1_2) := (blk_cell BK251.out 2).trans rfl; have hcz35_3 : w34.cell? ⟨gb251, 3, none⟩ = some (.int .i64 a1_3) := (blk_cell BK251.out 3).trans rfl; have hcz35_4 : w34.cell? ⟨gb251, 4, none⟩ = some (.int .i64 a1_4) := (blk_cell BK251.out 4).trans rfl; have hcz35_5 : w34.cell? ⟨gb251, 5, none⟩ = some (.int .i64 a1_5) := (blk_cell BK251.out 5).trans rfl; have hcz35_6 : w34.cell? ⟨gb251, 6, none⟩ = some (.int .i64 a1_6) := (blk_cell BK251.out 6).trans rfl; have hcz35_7 : w34.cell? ⟨gb251, 7, none⟩ = some (.int .i64 a1_7) := (blk_cell BK251.out 7).trans rfl; have hcz35_8 : w34.cell? ⟨gb251, 8, none⟩ = some (.int .i64 a1_8) := (blk_cell BK251.out 8).trans rfl; have hcz35_9 : w34.cell? ⟨gb251, 9, none⟩ = some (.int .i64 a1_9) := (blk_cell BK251.out 9).trans rfl; have hcz35_10 : w34.cell? ⟨gb251, 10, none⟩ = some (.int .i64 a1_10) := (blk_cell BK251.out 10).trans rfl; have hcz35_11 : w34.cell? ⟨gb251, 11, none⟩ = some (.int .i64 a1_11) := (blk_cell BK251.out 11).trans rfl; have hcz35_12 : w34.cell? ⟨gb251, 12, none⟩ = some (.bool a1_12) := (blk_cell BK251.out 12).trans rfl; have hcz35_13 : w34.cell? ⟨gb251, 13, none⟩ = some (.string a1_13) := (blk_cell BK251.out 13).trans rfl; have hcz35_14 : w34.cell? ⟨gb251, 14, none⟩ = some (.int .i64 a1_14) := (blk_cell BK251.out 14).trans rfl; have hcz35_15 : w34.cell? ⟨gb251, 15, none⟩ = some (.int .i64 a1_15) := (blk_cell BK251.out 15).trans rfl; have hcz35_16 : w34.cell? ⟨gb251, 16, none⟩ = some (.int .i64 a1_16) := (blk_cell BK251.out 16).trans rfl; have hcz35_17 : w34.cell? ⟨gb251, 17, none⟩ = some (.int .i64 a1_17) := (blk_cell BK251.out 17).trans rfl; have hcz35_18 : w34.cell? ⟨gb251, 18, none⟩ = some (.int .i64 a1_18) := (blk_cell BK251.out 18).trans rfl; have hfz35_0 := blk_frozen BK251.out 0; have hfz35_1 := blk_frozen BK251.out 1; have hfz35_2 := blk_frozen BK251.out 2; have hfz35_3 := blk_frozen BK251.out 3; have hfz35_4 := blk_frozen BK251.out 4; have hfz35_5 := blk_frozen BK251.out 5; have hfz35_6 := blk_frozen BK251.out 6; have hfz35_7 := blk_frozen BK251.out 7; have hfz35_8 := blk_frozen BK251.out 8; have hfz35_9 := blk_frozen BK251.out 9; have hfz35_10 := blk_frozen BK251.out 10; have hfz35_11 := blk_frozen BK251.out 11; have hfz35_12 := blk_frozen BK251.out 12; have hfz35_13 := blk_frozen BK251.out 13; have hfz35_14 := blk_frozen BK251.out 14; have hfz35_15 := blk_frozen BK251.out 15; have hfz35_16 := blk_frozen BK251.out 16; have hfz35_17 := blk_frozen BK251.out 17; have hfz35_18 := blk_frozen BK251.out 18))
     go_loopg [0, 37] k (fun kq v0 v37 w' => ∃ (x0_1 : List Int) (x37_1 : Int), v37 = .int .i64 x37_1 ∧ Aside0 (script_put.l0 kq x0_1 x37_1 a1_15 a1_16 a1_17 a1_18 = some r) ∧ Aside0 (kq ≤ k) ∧ Aside0 (Kd.R (Kd.int .u8) 5 w' w.heap.size (fun _ => True) v0 x0_1) ∧ Aside0 (w'.heap[gb251]? = some (.cells #[.int .i64 a1_0, .int .i64 a1_1, .int .i64 a1_2, .int .i64 a1_3, .int .i64 a1_4, .int .i64 a1_5, .int .i64 a1_6, .int .i64 a1_7, .int .i64 a1_8, .int .i64 a1_9, .int .i64 a1_10, .int .i64 a1_11, .bool a1_12, .string a1_13, .int .i64 a1_14, .int .i64 a1_15, .int .i64 a1_16, .int .i64 a1_17, .int .i64 a1_18] 42 (0, 0))) ∧ Aside0 (Below w.heap.size w w'))
     case atStart => exact ⟨(t252), (0), (by first | rfl | (simp; done) | (simp; unfold wrap64; omega) | (simp [*]; done)), H', ⟨Nat.le_refl _⟩, ⟨by (with_reducible repeat (first | apply Kd.R_alloc | apply Kd.R_drewN | apply Kd.R_drew)); exact HO254.out⟩, ⟨by (with_reducible repeat (first | refine blk_drewN ?_ _ | refine blk_drew ?_ | refine blk_alloc ?_ _)); exact BK251.out⟩, ⟨by repeat (first | (with_reducible first | exact HB.out | apply below_alloc | apply pw_below_drewN | apply below_drew1 | refine below_set ?_ GE251.out) | exact HB.out)⟩⟩
     case round =>
      clear H'
      try clear c1
      try clear hcv1
      try clear c2
      try clear p2
      try clear c3
      try clear c4
      try clear c4b0
      try clear c4b1
      try clear c5
      try clear p6
      try clear hcv12
      try clear c15
      try clear c15b0
      try clear c15b1
      try clear c23
      try clear c23b0
      try clear c23b1
      try clear c28
      try clear c31
      try clear c31b0
      try clear c31b1
      try clear hcz10_0
      try clear hcz10_1
      try clear hcz10_10
      try clear hcz10_11
      try clear hcz10_12
      try clear hcz10_13
      try clear hcz10_14
      try clear hcz10_15
      try clear hcz10_16
      try clear hcz10_17
      try clear hcz10_18
      try clear hcz10_2
      try clear hcz10_3
      try clear hcz10_4
      try clear hcz10_5
      try clear hcz10_6
      try clear hcz10_7
      try clear hcz10_8
      try clear hcz10_9
      try clear hcz18_0
      try clear hcz18_1
      try clear hcz18_10
      try clear hcz18_11
      try clear hcz18_12
      try clear hcz18_13
      try clear hcz18_14
      try clear hcz18_15
      try clear hcz18_16
      try clear hcz18_17
      try clear hcz18_18
      try clear hcz18_2
      try clear hcz18_3
      try clear hcz18_4
      try clear hcz18_5
      try clear hcz18_6
      try clear hcz18_7
      try clear hcz18_8
      try clear hcz18_9
      try clear hcz20_0
      try clear hcz20_1
      try clear hcz20_10
      try clear hcz20_11
      try clear hcz20_12
      try clear hcz20_13
      try clear hcz20_14
      try clear hcz20_15
      try clear hcz20_16
      try clear hcz20_17
      try clear hcz20_18
      try clear hcz20_2
      try clear hcz20_3
      try clear hcz20_4
      try clear hcz20_5
      try clear hcz20_6
      try clear hcz20_7
      try clear hcz20_8
      try clear hcz20_9
      try clear hcz26_0
      try clear hcz26_1
      try clear hcz26_10
      try clear hcz26_11
      try clear hcz26_12
      try clear hcz26_13
      try clear hcz26_14
      try clear hcz26_15
      try clear hcz26_16
      try clear hcz26_17
      try clear hcz26_18
      try clear hcz26_2
      try clear hcz26_3
      try clear hcz26_4
      try clear hcz26_5
      try clear hcz26_6
      try clear hcz26_7
      try clear hcz26_8
      try clear hcz26_9
      try clear hcz28_0
      try clear hcz28_1
      try clear hcz28_10
      try clear hcz28_11
      try clear hcz28_12
      try clear hcz28_13
      try clear hcz28_14
      try clear hcz28_15
      try clear hcz28_16
      try clear hcz28_17
      try clear hcz28_18
      try clear hcz28_2
      try clear hcz28_3
      try clear hcz28_4
      try clear hcz28_5
      try clear hcz28_6
      try clear hcz28_7
      try clear hcz28_8
      try clear hcz28_9
      try clear hcz33_0
      try clear hcz33_1
      try clear hcz33_10
      try clear hcz33_11
      try clear hcz33_12
      try clear hcz33_13
      try clear hcz33_14
      try clear hcz33_15
      try clear hcz33_16
      try clear hcz33_17
      try clear hcz33_18
      try clear hcz33_2
      try clear hcz33_3
      try clear hcz33_4
      try clear hcz33_5
      try clear hcz33_6
      try clear hcz33_7
      try clear hcz33_8
      try clear hcz33_9
      try clear hcz35_0
      try clear hcz35_1
      try clear hcz35_10
      try clear hcz35_11
      try clear hcz35_12
      try clear hcz35_13
      try clear hcz35_14
      try clear hcz35_15
      try clear hcz35_16
      try clear hcz35_17
      try clear hcz35_18
      try clear hcz35_2
      try clear hcz35_3
      try clear hcz35_4
      try clear hcz35_5
      try clear hcz35_6
      try clear hcz35_7
      try clear hcz35_8
      try clear hcz35_9
      try clear hcz8_0
      try clear hcz8_1
      try clear hcz8_10
      try clear hcz8_11
      try clear hcz8_12
      try clear hcz8_13
      try clear hcz8_14
      try clear hcz8_15
      try clear hcz8_16
      try clear hcz8_17
      try clear hcz8_18
      try clear hcz8_2
      try clear hcz8_3
      try clear hcz8_4
      try clear hcz8_5
      try clear hcz8_6
      try clear hcz8_7
      try clear hcz8_8
      try clear hcz8_9
      try clear hfz10_0
      try clear hfz10_1
      try clear hfz10_10
      try clear hfz10_11
      try clear hfz10_12
      try clear hfz10_13
      try clear hfz10_14
      try clear hfz10_15
      try clear hfz10_16
      try clear hfz10_17
      try clear hfz10_18
      try clear hfz10_2
      try clear hfz10_3
      try clear hfz10_4
      try clear hfz10_5
      try clear hfz10_6
      try clear hfz10_7
      try clear hfz10_8
      try clear hfz10_9
      try clear hfz18_0
      try clear hfz18_1
      try clear hfz18_10
      try clear hfz18_11
      try clear hfz18_12
      try clear hfz18_13
      try clear hfz18_14
      try clear hfz18_15
      try clear hfz18_16
      try clear hfz18_17
      try clear hfz18_18
      try clear hfz18_2
      try clear hfz18_3
      try clear hfz18_4
      try clear hfz18_5
      try clear hfz18_6
      try clear hfz18_7
      try clear hfz18_8
      try clear hfz18_9
      try clear hfz20_0
      try clear hfz20_1
      try clear hfz20_10
      try clear hfz20_11
      try clear hfz20_12
      try clear hfz20_13
      try clear hfz20_14
      try clear hfz20_15
      try clear hfz20_16
      try clear hfz20_17
      try clear hfz20_18
      try clear hfz20_2
      try clear hfz20_3
      try clear hfz20_4
      try clear hfz20_5
      try clear hfz20_6
      try clear hfz20_7
      try clear hfz20_8
      try clear hfz20_9
      try clear hfz26_0
      try clear hfz26_1
      try clear hfz26_10
      try clear hfz26_11
      try clear hfz26_12
      try clear hfz26_13
      try clear hfz26_14
      try clear hfz26_15
      try clear hfz26_16
      try clear hfz26_17
      try clear hfz26_18
      try clear hfz26_2
      try clear hfz26_3
      try clear hfz26_4
      try clear hfz26_5
      try clear hfz26_6
      try clear hfz26_7
      try clear hfz26_8
      try clear hfz26_9
      try clear hfz28_0
      try clear hfz28_1
      try clear hfz28_10
      try clear hfz28_11
      try clear hfz28_12
      try clear hfz28_13
      try clear hfz28_14
      try clear hfz28_15
      try clear hfz28_16
      try clear hfz28_17
      try clear hfz28_18
      try clear hfz28_2
      try clear hfz28_3
      try clear hfz28_4
      try clear hfz28_5
      try clear hfz28_6
      try clear hfz28_7
      try clear hfz28_8
      try clear hfz28_9
      try clear hfz33_0
      try clear hfz33_1
      try clear hfz33_10
      try clear hfz33_11
      try clear hfz33_12
      try clear hfz33_13
      try clear hfz33_14
      try clear hfz33_15
      try clear hfz33_16
      try clear hfz33_17
      try clear hfz33_18
      try clear hfz33_2
      try clear hfz33_3
      try clear hfz33_4
      try clear hfz33_5
      try clear hfz33_6
      try clear hfz33_7
      try clear hfz33_8
      try clear hfz33_9
      try clear hfz35_0
      try clear hfz35_1
      try clear hfz35_10
      try clear hfz35_11
      try clear hfz35_12
      try clear hfz35_13
      try clear hfz35_14
      try clear hfz35_15
      try clear hfz35_16
      try clear hfz35_17
      try clear hfz35_18
      try clear hfz35_2
      try clear hfz35_3
      try clear hfz35_4
      try clear hfz35_5
      try clear hfz35_6
      try clear hfz35_7
      try clear hfz35_8
      try clear hfz35_9
      try clear hfz8_0
      try clear hfz8_1
      try clear hfz8_10
      try clear hfz8_11
      try clear hfz8_12
      try clear hfz8_13
      try clear hfz8_14
      try clear hfz8_15
      try clear hfz8_16
      try clear hfz8_17
      try clear hfz8_18
      try clear hfz8_2
      try clear hfz8_3
      try clear hfz8_4
      try clear hfz8_5
      try clear hfz8_6
      try clear hfz8_7
      try clear hfz8_8
      try clear hfz8_9
      obtain ⟨x0_1, x37_1, rfl, HA, HK1, HO_0, BK251, HB⟩ := hrel
      cases gk with
      | zero => exact absurd HA.out (by simp [script_put.l0])
      | succ k1 =>
       have H := HA.out
       clear HA
       simp only [script_put.l0] at H
       by_cases c36 : x37_1 < 4
       ·rw [if_pos c36] at H
        have c36b0 : decide (x37_1 < 4) = true := decide_eq_true c36
        clear c36
        by_cases c37 : x37_1 = 0
        ·subst c37
         have H1 : ((coding_PutInt.f k1 x0_1 a1_15).bind fun t267 => (script_put.l0 k1 t267 (wrap64 (0 + 1)) a1_15 a1_16 a1_17 a1_18)) = some r := by rw [if_pos rfl] at H; exact H
         clear H
         have H := H1
         clear H1
         replace H := Option.bind_eq_some_iff.mp H
         obtain ⟨t267, A380, H⟩ := H
         replace H : (script_put.l0 k1 t267 (wrap64 (0 + 1)) a1_15 a1_16 a1_17 a1_18) = some r := H
         have A38 := Aside0.mk A380
         clear A380
         have H' := Aside0.mk H
         clear H
         obtain ⟨Ao39, co39, eo39⟩ := Kd.R_slice HO_0.out
         subst eo39
         go_wp2_with (first | ((with_reducible refine gate_callee (f := 49) rfl ?_); refine goesL_ (some 42) rfl rfl Tryd.func49 (by kernel_rfl) rfl #[.slice Ao39 x0_1.length co39, .int .i64 a1_15] rfl (by (try simp only [List.map_toArray, List.map_cons, List.map_nil]); first | done | rfl | (simp only [List.length_drop, List.length_take]; rfl)) ?_; (with_reducible refine (coding_PutInt.calls k1 _ _ x0_1 a1_15 t267 _ ?side1 ?side2 A38.out).mono ?_); (case side1 => repeat (first | exact (Kd.R_reads' HO_0.out).2.2 | (with_reducible refine Kd.C_alloc ?_ _) | (with_reducible refine Kd.C_drewN ?_ _) | (with_reducible refine Kd.C_drew ?_))); (case side2 => exact (Kd.R_reads' HO_0.out).2.1); rintro e w40 ⟨v268, rfl, ho0, hb⟩; refine ⟨_, rfl, ?_⟩; have n0_ := Aside0.mk (Kd.R_elder' (by (with_reducible repeat (first | apply Kd.R_alloc | apply Kd.R_drewN | apply Kd.R_drew)); exact HO_0.out) (Kd.R_base ho0) hb); have n1_ := Aside0.mk (Kd.R_lower (Kd.R_new' ho0 (Kd.R_lt (by (with_reducible repeat (first | apply Kd.R_alloc | apply Kd.R_drewN | apply Kd.R_drew)); exact HO_0.out))) (below_size (by repeat (first | (with_reducible first | exact HB.out | apply below_alloc | apply pw_below_drewN | apply below_drew1 | refine below_set ?_ GE251.out) | exact HB.out)))); have n2_ := Aside0.mk (blk_below (g := gb251) (o := .cells #[.int .i64 a1_0, .int .i64 a1_1, .int .i64 a1_2, .int .i64 a1_3, .int .i64 a1_4, .int .i64 a1_5, .int .i64 a1_6, .int .i64 a1_7, .int .i64 a1_8, .int .i64 a1_9, .int .i64 a1_10, .int .i64 a1_11, .bool a1_12, .string a1_13, .int .i64 a1_14, .int .i64 a1_15, .int .i64 a1_16, .int .i64 a1_17, .int .i64 a1_18] 42 (0, 0)) (by (with_reducible repeat (first | refine blk_drewN ?_ _ | refine blk_drew ?_ | refine blk_alloc ?_ _)); exact BK251.out) hb); have n3_ := Aside0.mk (below_step (by repeat (first | (with_reducible first | exact HB.out | apply below_alloc | apply pw_below_drewN | apply below_drew1 | refine below_set ?_ GE251.out) | exact HB.out)) hb); clear HO_0; clear BK251; clear HB; have HO_0 := n0_; have HO269 := n1_; have BK251 := n2_; have HB := n3_; clear n0_ n1_ n2_ n3_; (try clear hb); (try clear hb2); (try clear hk); (try clear hi); (try clear ho0)))
         go_roundg k1
         case measure => have := HK1.out; omega
         case rel => exact ⟨(t267), (wrap64 (0 + 1)), (by first | rfl | (simp; done) | (simp; unfold wrap64; omega) | (simp [*]; done)), H', ⟨by have := HK1.out; omega⟩, ⟨by (with_reducible repeat (first | apply Kd.R_alloc | apply Kd.R_drewN | apply Kd.R_drew)); exact Kd.R_mono HO269.out (fun _ hk => trivial)⟩, ⟨by (with_reducible repeat (first | refine blk_drewN ?_ _ | refine blk_drew ?_ | refine blk_alloc ?_ _)); exact BK251.out⟩, ⟨by repeat (first | (with_reducible first | exact HB.out | apply below_alloc | apply pw_below_drewN | apply below_drew1 | refine below_set ?_ GE251.out) | exact HB.out)⟩⟩
        ·rw [if_neg c37] at H
         by_cases c41 : x37_1 = 1
         ·subst c41
          have H1 : ((coding_PutInt.f k1 x0_1 a1_16).bind fun t270 => (script_put.l0 k1 t270 (wrap64 (1 + 1)) a1_15 a1_16 a1_17 a1_18)) = some r := by rw [if_pos rfl] at H; exact H
          clear H
          have H := H1
          clear H1
          replace H := Option.bind_eq_some_iff.mp H
          obtain ⟨t270, A420, H⟩ := H
          replace H : (script_put.l0 k1 t270 (wrap64 (1 + 1)) a1_15 a1_16 a1_17 a1_18) = some r := H
          have A42 := Aside0.mk A420
          clear A420
          have H' := Aside0.mk H
          clear H
          obtain ⟨Ao43, co43, eo43⟩ := Kd.R_slice HO_0.out
          subst eo43
          go_wp2_with (first | ((with_reducible refine gate_callee (f := 49) rfl ?_); refine goesL_ (some 42) rfl rfl Tryd.func49 (by kernel_rfl) rfl #[.slice Ao43 x0_1.length co43, .int .i64 a1_16] rfl (by (try simp only [List.map_toArray, List.map_cons, List.map_nil]); first | done | rfl | (simp only [List.length_drop, List.length_take]; rfl)) ?_; (with_reducible refine (coding_PutInt.calls k1 _ _ x0_1 a1_16 t270 _ ?side1 ?side2 A42.out).mono ?_); (case side1 => repeat (first | exact (Kd.R_reads' HO_0.out).2.2 | (with_reducible refine Kd.C_alloc ?_ _) | (with_reducible refine Kd.C_drewN ?_ _) | (with_reducible refine Kd.C_drew ?_))); (case side2 => exact (Kd.R_reads' HO_0.out).2.1); rintro e w44 ⟨v271, rfl, ho0, hb⟩; refine ⟨_, rfl, ?_⟩; have n0_ := Aside0.mk (Kd.R_elder' (by (with_reducible repeat (first | apply Kd.R_alloc | apply Kd.R_drewN | apply Kd.R_drew)); exact HO_0.out) (Kd.R_base ho0) hb); have n1_ := Aside0.mk (Kd.R_lower (Kd.R_new' ho0 (Kd.R_lt (by (with_reducible repeat (first | apply Kd.R_alloc | apply Kd.R_drewN | apply Kd.R_drew)); exact HO_0.out))) (below_size (by repeat (first | (with_reducible first | exact HB.out | apply below_alloc | apply pw_below_drewN | apply below_drew1 | refine below_set ?_ GE251.out) | exact HB.out)))); have n2_ := Aside0.mk (blk_below (g := gb251) (o := .cells #[.int .i64 a1_0, .int .i64 a1_1, .int .i64 a1_2, .int .i64 a1_3, .int .i64 a1_4, .int .i64 a1_5, .int .i64 a1_6, .int .i64 a1_7, .int .i64 a1_8, .int .i64 a1_9, .int .i64 a1_10, .int .i64 a1_11, .bool a1_12, .string a1_13, .int .i64 a1_14, .int .i64 a1_15, .int .i64 a1_16, .int .i64 a1_17, .int .i64 a1_18] 42 (0, 0)) (by (with_reducible repeat (first | refine blk_drewN ?_ _ | refine blk_drew ?_ | refine blk_alloc ?_ _)); exact BK251.out) hb); have n3_ := Aside0.mk (below_step (by repeat (first | (with_reducible first | exact HB.out | apply below_alloc | apply pw_below_drewN | apply below_drew1 | refine below_set ?_ GE251.out) | exact HB.out)) hb); clear HO_0; clear BK251; clear HB; have HO_0 := n0_; have HO272 := n1_; have BK251 := n2_; have HB := n3_; clear n0_ n1_ n2_ n3_; (try clear hb); (try clear hb2); (try clear hk); (try clear hi); (try clear ho0)))
          go_roundg k1
          case measure => have := HK1.out; omega
          case rel => exact ⟨(t270), (wrap64 (1 + 1)), (by first | rfl | (simp; done) | (simp; unfold wrap64; omega) | (simp [*]; done)), H', ⟨by have := HK1.out; omega⟩, ⟨by (with_reducible repeat (first | apply Kd.R_alloc | apply Kd.R_drewN | apply Kd.R_drew)); exact Kd.R_mono HO272.out (fun _ hk => trivial)⟩, ⟨by (with_reducible repeat (first | refine blk_drewN ?_ _ | refine blk_drew ?_ | refine blk_alloc ?_ _)); exact BK251.out⟩, ⟨by repeat (first | (with_reducible first | exact HB.out | apply below_alloc | apply pw_below_drewN | apply below_drew1 | refine below_set ?_ GE251.out) | exact HB.out)⟩⟩
         ·rw [if_neg c41] at H
          by_cases c45 : x37_1 = 2
          ·subst c45
           have H1 : ((coding_PutInt.f k1 x0_1 a1_17).bind fun t273 => (script_put.l0 k1 t273 (wrap64 (2 + 1)) a1_15 a1_16 a1_17 a1_18)) = some r := by rw [if_pos rfl] at H; exact H
           clear H
           have H := H1
           clear H1
           replace H := Option.bind_eq_some_iff.mp H
           obtain ⟨t273, A460, H⟩ := H
           replace H : (script_put.l0 k1 t273 (wrap64 (2 + 1)) a1_15 a1_16 a1_17 a1_18) = some r := H
           have A46 := Aside0.mk A460
           clear A460
           have H' := Aside0.mk H
           clear H
           obtain ⟨Ao47, co47, eo47⟩ := Kd.R_slice HO_0.out
           subst eo47
           go_wp2_with (first | ((with_reducible refine gate_callee (f := 49) rfl ?_); refine goesL_ (some 42) rfl rfl Tryd.func49 (by kernel_rfl) rfl #[.slice Ao47 x0_1.length co47, .int .i64 a1_17] rfl (by (try simp only [List.map_toArray, List.map_cons, List.map_nil]); first | done | rfl | (simp only [List.length_drop, List.length_take]; rfl)) ?_; (with_reducible refine (coding_PutInt.calls k1 _ _ x0_1 a1_17 t273 _ ?side1 ?side2 A46.out).mono ?_); (case side1 => repeat (first | exact (Kd.R_reads' HO_0.out).2.2 | (with_reducible refine Kd.C_alloc ?_ _) | (with_reducible refine Kd.C_drewN ?_ _) | (with_reducible refine Kd.C_drew ?_))); (case side2 => exact (Kd.R_reads' HO_0.out).2.1); rintro e w48 ⟨v274, rfl, ho0, hb⟩; refine ⟨_, rfl, ?_⟩; have n0_ := Aside0.mk (Kd.R_elder' (by (with_reducible repeat (first | apply Kd.R_alloc | apply Kd.R_drewN | apply Kd.R_drew)); exact HO_0.out) (Kd.R_base ho0) hb); have n1_ := Aside0.mk (Kd.R_lower (Kd.R_new' ho0 (Kd.R_lt (by (with_reducible repeat (first | apply Kd.R_alloc | apply Kd.R_drewN | apply Kd.R_drew)); exact HO_0.out))) (below_size (by repeat (first | (with_reducible first | exact HB.out | apply below_alloc | apply pw_below_drewN | apply below_drew1 | refine below_set ?_ GE251.out) | exact HB.out)))); have n2_ := Aside0.mk (blk_below (g := gb251) (o := .cells #[.int .i64 a1_0, .int .i64 a1_1, .int .i64 a1_2, .int .i64 a1_3, .int .i64 a1_4, .int .i64 a1_5, .int .i64 a1_6, .int .i64 a1_7, .int .i64 a1_8, .int .i64 a1_9, .int .i64 a1_10, .int .i64 a1_11, .bool a1_12, .string a1_13, .int .i64 a1_14, .int .i64 a1_15, .int .i64 a1_16, .int .i64 a1_17, .int .i64 a1_18] 42 (0, 0)) (by (with_reducible repeat (first | refine blk_drewN ?_ _ | refine blk_drew ?_ | refine blk_alloc ?_ _)); exact BK251.out) hb); have n3_ := Aside0.mk (below_step (by repeat (first | (with_reducible first | exact HB.out | apply below_alloc | apply pw_below_drewN | apply below_drew1 | refine below_set ?_ GE251.out) | exact HB.out)) hb); clear HO_0; clear BK251; clear HB; have HO_0 := n0_; have HO275 := n1_; have BK251 := n2_; have HB := n3_; clear n0_ n1_ n2_ n3_; (try clear hb); (try clear hb2); (try clear hk); (try clear hi); (try clear ho0)))
           go_roundg k1
           case measure => have := HK1.out; omega
           case rel => exact ⟨(t273), (wrap64 (2 + 1)), (by first | rfl | (simp; done) | (simp; unfold wrap64; omega) | (simp [*]; done)), H', ⟨by have := HK1.out; omega⟩, ⟨by (with_reducible repeat (first | apply Kd.R_alloc | apply Kd.R_drewN | apply Kd.R_drew)); exact Kd.R_mono HO275.out (fun _ hk => trivial)⟩, ⟨by (with_reducible repeat (first | refine blk_drewN ?_ _ | refine blk_drew ?_ | refine blk_alloc ?_ _)); exact BK251.out⟩, ⟨by repeat (first | (with_reducible first | exact HB.out | apply below_alloc | apply pw_below_drewN | apply below_drew1 | refine below_set ?_ GE251.out) | exact HB.out)⟩⟩
          ·rw [if_neg c45] at H
           by_cases c49 : x37_1 = 3
           ·subst c49
            have H1 : ((coding_PutInt.f k1 x0_1 a1_18).bind fun t276 => (script_put.l0 k1 t276 (wrap64 (3 + 1)) a1_15 a1_16 a1_17 a1_18)) = some r := by rw [if_pos rfl] at H; exact H
            clear H
            have H := H1
            clear H1
            replace H := Option.bind_eq_some_iff.mp H
            obtain ⟨t276, A500, H⟩ := H
            replace H : (script_put.l0 k1 t276 (wrap64 (3 + 1)) a1_15 a1_16 a1_17 a1_18) = some r := H
            have A50 := Aside0.mk A500
            clear A500
            have H' := Aside0.mk H
            clear H
            obtain ⟨Ao51, co51, eo51⟩ := Kd.R_slice HO_0.out
            subst eo51
            go_wp2_with (first | ((with_reducible refine gate_callee (f := 49) rfl ?_); refine goesL_ (some 42) rfl rfl Tryd.func49 (by kernel_rfl) rfl #[.slice Ao51 x0_1.length co51, .int .i64 a1_18] rfl (by (try simp only [List.map_toArray, List.map_cons, List.map_nil]); first | done | rfl | (simp only [List.length_drop, List.length_take]; rfl)) ?_; (with_reducible refine (coding_PutInt.calls k1 _ _ x0_1 a1_18 t276 _ ?side1 ?side2 A50.out).mono ?_); (case side1 => repeat (first | exact (Kd.R_reads' HO_0.out).2.2 | (with_reducible refine Kd.C_alloc ?_ _) | (with_reducible refine Kd.C_drewN ?_ _) | (with_reducible refine Kd.C_drew ?_))); (case side2 => exact (Kd.R_reads' HO_0.out).2.1); rintro e w52 ⟨v277, rfl, ho0, hb⟩; refine ⟨_, rfl, ?_⟩; have n0_ := Aside0.mk (Kd.R_elder' (by (with_reducible repeat (first | apply Kd.R_alloc | apply Kd.R_drewN | apply Kd.R_drew)); exact HO_0.out) (Kd.R_base ho0) hb); have n1_ := Aside0.mk (Kd.R_lower (Kd.R_new' ho0 (Kd.R_lt (by (with_reducible repeat (first | apply Kd.R_alloc | apply Kd.R_drewN | apply Kd.R_drew)); exact HO_0.out))) (below_size (by repeat (first | (with_reducible first | exact HB.out | apply below_alloc | apply pw_below_drewN | apply below_drew1 | refine below_set ?_ GE251.out) | exact HB.out)))); have n2_ := Aside0.mk (blk_below (g := gb251) (o := .cells #[.int .i64 a1_0, .int .i64 a1_1, .int .i64 a1_2, .int .i64 a1_3, .int .i64 a1_4, .int .i64 a1_5, .int .i64 a1_6, .int .i64 a1_7, .int .i64 a1_8, .int .i64 a1_9, .int .i64 a1_10, .int .i64 a1_11, .bool a1_12, .string a1_13, .int .i64 a1_14, .int .i64 a1_15, .int .i64 a1_16, .int .i64 a1_17, .int .i64 a1_18] 42 (0, 0)) (by (with_reducible repeat (first | refine blk_drewN ?_ _ | refine blk_drew ?_ | refine blk_alloc ?_ _)); exact BK251.out) hb); have n3_ := Aside0.mk (below_step (by repeat (first | (with_reducible first | exact HB.out | apply below_alloc | apply pw_below_drewN | apply below_drew1 | refine below_set ?_ GE251.out) | exact HB.out)) hb); clear HO_0; clear BK251; clear HB; have HO_0 := n0_; have HO278 := n1_; have BK251 := n2_; have HB := n3_; clear n0_ n1_ n2_ n3_; (try clear hb); (try clear hb2); (try clear hk); (try clear hi); (try clear ho0)))
            go_roundg k1
            case measure => have := HK1.out; omega
            case rel => exact ⟨(t276), (wrap64 (3 + 1)), (by first | rfl | (simp; done) | (simp; unfold wrap64; omega) | (simp [*]; done)), H', ⟨by have := HK1.out; omega⟩, ⟨by (with_reducible repeat (first | apply Kd.R_alloc | apply Kd.R_drewN | apply Kd.R_drew)); exact Kd.R_mono HO278.out (fun _ hk => trivial)⟩, ⟨by (with_reducible repeat (first | refine blk_drewN ?_ _ | refine blk_drew ?_ | refine blk_alloc ?_ _)); exact BK251.out⟩, ⟨by repeat (first | (with_reducible first | exact HB.out | apply below_alloc | apply pw_below_drewN | apply below_drew1 | refine below_set ?_ GE251.out) | exact HB.out)⟩⟩
           ·rw [if_neg c49] at H
            exact absurd H (by simp)
       ·rw [if_neg c36] at H
        have c36b0 : decide (x37_1 < 4) = false := decide_eq_false c36
        clear c36
        obtain rfl := Option.some.inj H
        go_wp2
        go_ret
        exact ⟨_, by first | rfl | (simp [errW_none, errW_some] <;> rfl) | (simp [*, errW_none, errW_some] <;> rfl), by (with_reducible repeat (first | apply Kd.R_alloc | apply Kd.R_drewN | apply Kd.R_drew)); exact HO_0.out, by repeat (first | (with_reducible first | exact HB.out | apply below_alloc | apply pw_below_drewN | apply below_drew1 | refine below_set ?_ GE251.out) | exact HB.out)⟩
    ·rw [if_neg c31] at H
     have c31b0 : (a1_0 == 3) = false := beq_eq_false_iff_ne.mpr c31
     have c31b1 : (a1_0 != 3) = true := bne_iff_ne.mpr c31
     obtain rfl := Option.some.inj H
     go_enter Tryd.func28, Tryd.ntmps28
     go_wp2_with (first | ((with_reducible refine gate_dst (N := 3) rfl ?_); refine box_event ?hg (N := 3) ?hd (cs := #[.int .i64 a1_0, .int .i64 a1_1, .int .i64 a1_2, .int .i64 a1_3, .int .i64 a1_4, .int .i64 a1_5, .int .i64 a1_6, .int .i64 a1_7, .int .i64 a1_8, .int .i64 a1_9, .int .i64 a1_10, .int .i64 a1_11, .bool a1_12, .string a1_13, .int .i64 a1_14, .int .i64 a1_15, .int .i64 a1_16, .int .i64 a1_17, .int .i64 a1_18]) (t := 42) ?hr ?_; (case hd => rfl); (case hg => rfl); (case hr => first | (go_simp; done) | (go_simp; rfl)); intro gb251 hg w53 hbox hb; have n0_ := Aside0.mk (below_step (by repeat (first | (with_reducible first | exact HB.out | apply below_alloc | apply pw_below_drewN | apply below_drew1) | exact HB.out)) hb); have n1_ := Aside0.mk (hbox); have n2_ := Aside0.mk ((by rw [hg]; exact (below_size (by repeat (first | (with_reducible first | exact HB.out | apply below_alloc | apply pw_below_drewN | apply below_drew1) | exact HB.out))) : w.heap.size ≤ gb251)); have n3_ := Aside0.mk ((by rw [hg]; exact (below_size (by repeat (first | (with_reducible first | exact HB.out | apply below_alloc | apply pw_below_drewN | apply below_drew1) | exact HB.out))) : w.heap.size ≤ gb251)); clear HB; have HB := n0_; have BK251 := n1_; have GW251 := n2_; have GE251 := n3_; clear n0_ n1_ n2_ n3_; clear hb hbox hg; have hcz54_0 : w53.cell? ⟨gb251, 0, none⟩ = some (.int .i64 a1_0) := (blk_cell BK251.out 0).trans rfl; have hcz54_1 : w53.cell? ⟨gb251, 1, none⟩ = some (.int .i64 a1_1) := (blk_cell BK251.out 1).trans rfl; have hcz54_2 : w53.cell? ⟨gb251, 2, none⟩ = some (.int .i64 a1_2) := (blk_cell BK251.out 2).trans rfl; have hcz54_3 : w53.cell? ⟨gb251, 3, none⟩ = some (.int .i64 a1_3) := (blk_cell BK251.out 3).trans rfl; have hcz54_4 : w53.cell? ⟨gb251, 4, none⟩ = some (.int .i64 a1_4) := (blk_cell BK251.out 4).trans rfl; have hcz54_5 : w53.cell? ⟨gb251, 5, none⟩ = some (.int .i64 a1_5) := (blk_cell BK251.out 5).trans rfl; have hcz54_6 : w53.cell? ⟨gb251, 6, none⟩ = some (.int .i64 a1_6) := (blk_cell BK251.out 6).trans rfl; have hcz54_7 : w53.cell? ⟨gb251, 7, none⟩ = some (.int .i64 a1_7) := (blk_cell BK251.out 7).trans rfl; have hcz54_8 : w53.cell? ⟨gb251, 8, none⟩ = some (.int .i64 a1_8) := (blk_cell BK251.out 8).trans rfl; have hcz54_9 : w53.cell? ⟨gb251, 9, none⟩ = some (.int .i64 a1_9) := (blk_cell BK251.out 9).trans rfl; have hcz54_10 : w53.cell? ⟨gb251, 10, none⟩ = some (.int .i64 a1_10) := (blk_cell BK251.out 10).trans rfl; have hcz54_11 : w53.cell? ⟨gb251, 11, none⟩ = some (.int .i64 a1_11) := (blk_cell BK251.out 11).trans rfl; have hcz54_12 : w53.cell? ⟨gb251, 12, none⟩ = some (.bool a1_12) := (blk_cell BK251.out 12).trans rfl; have hcz54_13 : w53.cell? ⟨gb251, 13, none⟩ = some (.string a1_13) := (blk_cell BK251.out 13).trans rfl; have hcz54_14 : w53.cell? ⟨gb251, 14, none⟩ = some (.int .i64 a1_14) := (blk_cell BK251.out 14).trans rfl; have hcz54_15 : w53.cell? ⟨gb251, 15, none⟩ = some (.int .i64 a1_15) := (blk_cell BK251.out 15).trans rfl; have hcz54_16 : w53.cell? ⟨gb251, 16, none⟩ = some (.int .i64 a1_16) := (blk_cell BK251.out 16).trans rfl; have hcz54_17 : w53.cell? ⟨gb251, 17, none⟩ = some (.int .i64 a1_17) := (blk_cell BK251.out 17).trans rfl; have hcz54_18 : w53.cell? ⟨gb251, 18, none⟩ = some (.int .i64 a1_18) := (blk_cell BK251.out 18).trans rfl; have hfz54_0 := blk_frozen BK251.out 0; have hfz54_1 := blk_frozen BK251.out 1; have hfz54_2 := blk_frozen BK251.out 2; have hfz54_3 := blk_frozen BK251.out 3; have hfz54_4 := blk_frozen BK251.out 4; have hfz54_5 := blk_frozen BK251.out 5; have hfz54_6 := blk_frozen BK251.out 6; have hfz54_7 := blk_frozen BK251.out 7; have hfz54_8 := blk_frozen BK251.out 8; have hfz54_9 := blk_frozen BK251.out 9; have hfz54_10 := blk_frozen BK251.out 10; have hfz54_11 := blk_frozen BK251.out 11; have hfz54_12 := blk_frozen BK251.out 12; have hfz54_13 := blk_frozen BK251.out 13; have hfz54_14 := blk_frozen BK251.out 14; have hfz54_15 := blk_frozen BK251.out 15; have hfz54_16 := blk_frozen BK251.out 16; have hfz54_17 := blk_frozen BK251.out 17; have hfz54_18 := blk_frozen BK251.out 18) | ((with_reducible refine gate_callee (f := 49) rfl ?_); refine goesL_ (some 10) rfl rfl Tryd.func49 (by kernel_rfl) rfl #[.slice A0 l0.length c0, .int .i64 a1_0] rfl (by (try simp only [List.map_toArray, List.map_cons, List.map_nil]); first | done | rfl | (simp only [List.length_drop, List.length_take]; rfl)) ?_; (with_reducible refine (coding_PutInt.calls k _ _ l0 a1_0 t252 _ ?side1 ?side2 A3.out).mono ?_); (case side1 => repeat (first | exact (Kd.C_below HR0.out HB.out) | (with_reducible refine Kd.C_alloc ?_ _) | (with_reducible refine Kd.C_drewN ?_ _) | (with_reducible refine Kd.C_drew ?_))); (case side2 => exact HC0.out); rintro e w55 ⟨v253, rfl, ho0, hb⟩; refine ⟨_, rfl, ?_⟩; have n0_ := Aside0.mk (Kd.R_lower ho0 (below_size (by repeat (first | (with_reducible first | exact HB.out | apply below_alloc | apply pw_below_drewN | apply below_drew1 | refine below_set ?_ GE251.out) | exact HB.out)))); have n1_ := Aside0.mk (blk_below (g := gb251) (o := .cells #[.int .i64 a1_0, .int .i64 a1_1, .int .i64 a1_2, .int .i64 a1_3, .int .i64 a1_4, .int .i64 a1_5, .int .i64 a1_6, .int .i64 a1_7, .int .i64 a1_8, .int .i64 a1_9, .int .i64 a1_10, .int .i64 a1_11, .bool a1_12, .string a1_13, .int .i64 a1_14, .int .i64 a1_15, .int .i64 a1_16, .int .i64 a1_17, .int .i64 a1_18] 42 (0, 0)) (by (with_reducible repeat (first | refine blk_drewN ?_ _ | refine blk_drew ?_ | refine blk_alloc ?_ _)); exact BK251.out) hb); have n2_ := Aside0.mk (below_step (by repeat (first | (with_reducible first | exact HB.out | apply below_alloc | apply pw_below_drewN | apply below_drew1 | refine below_set ?_ GE251.out) | exact HB.out)) hb); clear BK251; clear HB; have HO254 := n0_; have BK251 := n1_; have HB := n2_; clear n0_ n1_ n2_; (try clear hb); (try clear hb2); (try clear hk); (try clear hi); (try clear ho0); have hcz56_0 : w55.cell? ⟨gb251, 0, none⟩ = some (.int .i64 a1_0) := (blk_cell BK251.out 0).trans rfl; have hcz56_1 : w55.cell? ⟨gb251, 1, none⟩ = some (.int .i64 a1_1) := (blk_cell BK251.out 1).trans rfl; have hcz56_2 : w55.cell? ⟨gb251, 2, none⟩ = some (.int .i64 a1_2) := (blk_cell BK251.out 2).trans rfl; have hcz56_3 : w55.cell? ⟨gb251, 3, none⟩ = some (.int .i64 a1_3) := (blk_cell BK251.out 3).trans rfl; have hcz56_4 : w55.cell? ⟨gb251, 4, none⟩ = some (.int .i64 a1_4) := (blk_cell BK251.out 4).trans rfl; have hcz56_5 : w55.cell? ⟨gb251, 5, none⟩ = some (.int .i64 a1_5) := (blk_cell BK251.out 5).trans rfl; have hcz56_6 : w55.cell? ⟨gb251, 6, none⟩ = some (.int .i64 a1_6) := (blk_cell BK251.out 6).trans rfl; have hcz56_7 : w55.cell? ⟨gb251, 7, none⟩ = some (.int .i64 a1_7) := (blk_cell BK251.out 7).trans rfl; have hcz56_8 : w55.cell? ⟨gb251, 8, none⟩ = some (.int .i64 a1_8) := (blk_cell BK251.out 8).trans rfl; have hcz56_9 : w55.cell? ⟨gb251, 9, none⟩ = some (.int .i64 a1_9) := (blk_cell BK251.out 9).trans rfl; have hcz56_10 : w55.cell? ⟨gb251, 10, none⟩ = some (.int .i64 a1_10) := (blk_cell BK251.out 10).trans rfl; have hcz56_11 : w55.cell? ⟨gb251, 11, none⟩ = some (.int .i64 a1_11) := (blk_cell BK251.out 11).trans rfl; have hcz56_12 : w55.cell? ⟨gb251, 12, none⟩ = some (.bool a1_12) := (blk_cell BK251.out 12).trans rfl; have hcz56_13 : w55.cell? ⟨gb251, 13, none⟩ = some (.string a1_13) := (blk_cell BK251.out 13).trans rfl; have hcz56_14 : w55.cell? ⟨gb251, 14, none⟩ = some (.int .i64 a1_14) := (blk_cell BK251.out 14).trans rfl; have hcz56_15 : w55.cell? ⟨gb251, 15, none⟩ = some (.int .i64 a1_15) := (blk_cell BK251.out 15).trans rfl; have hcz56_16 : w55.cell? ⟨gb251, 16, none⟩ = some (.int .i64 a1_16) := (blk_cell BK251.out 16).trans rfl; have hcz56_17 : w55.cell? ⟨gb251, 17, none⟩ = some (.int .i64 a1_17) := (blk_cell BK251.out 17).trans rfl; have hcz56_18 : w55.cell? ⟨gb251, 18, none⟩ = some (.int .i64 a1_18) := (blk_cell BK251.out 18).trans rfl; have hfz56_0 := blk_frozen BK251.out 0; have hfz56_1 := blk_frozen BK251.out 1; have hfz56_2 := blk_frozen BK251.out 2; have hfz56_3 := blk_frozen BK251.out 3; have hfz56_4 := blk_frozen BK251.out 4; have hfz56_5 := blk_frozen BK251.out 5; have hfz56_6 := blk_frozen BK251.out 6; have hfz56_7 := blk_frozen BK251.out 7; have hfz56_8 := blk_frozen BK251.out 8; have hfz56_9 := blk_frozen BK251.out 9; have hfz56_10 := blk_frozen BK251.out 10; have hfz56_11 := blk_frozen BK251.out 11; have hfz56_12 := blk_frozen BK251.out 12; have hfz56_13 := blk_frozen BK251.out 13; have hfz56_14 := blk_frozen BK251.out 14; have hfz56_15 := blk_frozen BK251.out 15; have hfz56_16 := blk_frozen BK251.out 16; have hfz56_17 := blk_frozen BK251.out 17; have hfz56_18 := blk_frozen BK251.out 18))
     go_ret
     exact ⟨_, by first | rfl | (simp [errW_none, errW_some] <;> rfl) | (simp [*, errW_none, errW_some] <;> rfl), by (with_reducible repeat (first | apply Kd.R_alloc | apply Kd.R_drewN | apply Kd.R_drew)); exact HO254.out, by repeat (first | (with_reducible first | exact HB.out | apply below_alloc | apply pw_below_drewN | apply below_drew1 | refine below_set ?_ GE251.out) | exact HB.out)⟩

end Go.Proofs.YtkkjjogbfjahgaaDoor.PSc
