/- By a program of this session (the print, with contracts written by hand let in), key Tr: what the functions come to as Lean functions, and the contracts that lead from the Go code to them. Conditions: those of the statements. -/
import Derived.Test.YtdpomgfibjlehaaDoorTrTame
import Derived.Test.YtdpomgfibjlehaaDoorTrDraw
import Derived.Test.YtdpomgfibjlehaaDoorPTrx0
import Derived.Test.YtdpomgfibjlehaaDoorPTrx14
import Derived.Lib.SliceRun
namespace Go.Proofs.YtdpomgfibjlehaaDoor.PTr
open Go.RowKit Go.Proofs.YtdpomgfibjlehaaDoorW.PrintWords Go.Proofs.YtdpomgfibjlehaaDoorW.PrintLast Go.Proofs.YtdpomgfibjlehaaDoorW.PrintMore
attribute [local go_sem] max2_int min2_int max_two min_two max_three min_three max_four min_four   -- for this text's walks alone
set_option linter.unusedVariables false
set_option linter.unusedSimpArgs false

/-! ### berthinglaw32_TraceDrawn: function 6 -/
mutual
def berthinglaw32_TraceDrawn.l0 : Nat → List (S46) → Int → Int → Int → Option (Bool)
 | 0, _, _, _, _ => none
 | k + 1, x0, x1, x2, x7 => if x7 < (x0.length : Int) then (if 0 ≤ x7 then (berthinglaw32_TraceDrawn.l0 k (x0.set (x7 : Int).toNat (⟨(rd_T46 x0 x7).f0, (rd_T46 x0 x7).f1, (rd_T46 x0 x7).f2, Go.bits .and .u64 ((rd_T46 x0 x7).f3) 255, (rd_T46 x0 x7).f4, (rd_T46 x0 x7).f5, (rd_T46 x0 x7).f6⟩ : S46)) x1 x2 (wrap64 (x7 + 1))) else (none)) else ((trace_Draw.f x0 0 8 (Go.bits .and .i64 x1 255) (Go.bits .and .i64 x2 31)).bind fun t290 => (if (t290.size : Int) = (wrap64 (8 * (wrap64 ((Go.bits .and .i64 x2 31) + 1)))) then (berthinglaw32_TraceDrawn.l1 k x0 (Go.bits .and .i64 x1 255) (Go.bits .and .i64 x2 31) t290 0) else (none)))
def berthinglaw32_TraceDrawn.l1 : Nat → List (S46) → Int → Int → ByteArray → Int → Option (Bool)
 | 0, _, _, _, _, _ => none
 | k + 1, x0, x1, x2, x8, x9 => if x9 < x2 then (berthinglaw32_TraceDrawn.l2 k x0 x1 x2 x8 x9 0 0) else ((berthinglaw32_one.f k).bind fun t291 => (some t291))
def berthinglaw32_TraceDrawn.l2 : Nat → List (S46) → Int → Int → ByteArray → Int → Int → Int → Option (Bool)
 | 0, _, _, _, _, _, _, _ => none
 | k + 1, x0, x1, x2, x8, x9, x10, x11 => if x11 < 8 then (if 0 ≤ (wrap64 ((wrap64 (x11 * (wrap64 (x2 + 1)))) + x9)) then (if (wrap64 ((wrap64 (x11 * (wrap64 (x2 + 1)))) + x9)) < (x8.size : Int) then (if (bt x8 (wrap64 ((wrap64 (x11 * (wrap64 (x2 + 1)))) + x9))) ≥ 48 then (berthinglaw32_TraceDrawn.j3 k x0 x1 x2 x8 x9 x10 x11 (bt x8 (wrap64 ((wrap64 (x11 * (wrap64 (x2 + 1)))) + x9))) (decide ((bt x8 (wrap64 ((wrap64 (x11 * (wrap64 (x2 + 1)))) + x9))) ≤ 57))) else (berthinglaw32_TraceDrawn.j3 k x0 x1 x2 x8 x9 x10 x11 (bt x8 (wrap64 ((wrap64 (x11 * (wrap64 (x2 + 1)))) + x9))) false)) else (none)) else (none)) else ((trace_Busy.f x0 0 (wrap64 (x1 + x9))).bind fun t292 => (if x10 = t292 then (berthinglaw32_TraceDrawn.l1 k x0 x1 x2 x8 (wrap64 (x9 + 1))) else (none)))
def berthinglaw32_TraceDrawn.j3 : Nat → List (S46) → Int → Int → ByteArray → Int → Int → Int → Int → Bool → Option (Bool)
 | 0, _, _, _, _, _, _, _, _, _ => none
 | k + 1, x0, x1, x2, x8, x9, x10, x11, x12, x67 => if x67 = true then (berthinglaw32_TraceDrawn.l2 k x0 x1 x2 x8 x9 (wrap64 (x10 + 1)) (wrap64 (x11 + 1))) else (if x12 = 46 then (berthinglaw32_TraceDrawn.l2 k x0 x1 x2 x8 x9 x10 (wrap64 (x11 + 1))) else (none))
end
def berthinglaw32_TraceDrawn.f (k : Nat) (l0 : List (S46)) (a1 : Int) (a2 : Int) : Option (Bool) := (berthinglaw32_Tame.f l0 14).bind fun t285 => (berthinglaw32_TraceDrawn.l0 k t285 a1 a2 0)
theorem berthinglaw32_TraceDrawn.mono_l : ∀ k, (∀ y0 y1 y2 y3, LeO (berthinglaw32_TraceDrawn.l0 k y0 y1 y2 y3) (berthinglaw32_TraceDrawn.l0 (k + 1) y0 y1 y2 y3)) ∧ (∀ y0 y1 y2 y3 y4, LeO (berthinglaw32_TraceDrawn.l1 k y0 y1 y2 y3 y4) (berthinglaw32_TraceDrawn.l1 (k + 1) y0 y1 y2 y3 y4)) ∧ (∀ y0 y1 y2 y3 y4 y5 y6, LeO (berthinglaw32_TraceDrawn.l2 k y0 y1 y2 y3 y4 y5 y6) (berthinglaw32_TraceDrawn.l2 (k + 1) y0 y1 y2 y3 y4 y5 y6)) ∧ (∀ y0 y1 y2 y3 y4 y5 y6 y7 y8, LeO (berthinglaw32_TraceDrawn.j3 k y0 y1 y2 y3 y4 y5 y6 y7 y8) (berthinglaw32_TraceDrawn.j3 (k + 1) y0 y1 y2 y3 y4 y5 y6 y7 y8))
 | 0 => ⟨fun _ _ _ _ r h => by simp [berthinglaw32_TraceDrawn.l0] at h, fun _ _ _ _ _ r h => by simp [berthinglaw32_TraceDrawn.l1] at h, fun _ _ _ _ _ _ _ r h => by simp [berthinglaw32_TraceDrawn.l2] at h, fun _ _ _ _ _ _ _ _ _ r h => by simp [berthinglaw32_TraceDrawn.j3] at h⟩
 | k + 1 => by
  obtain ⟨ih0, ih1, ih2, ih3⟩ := berthinglaw32_TraceDrawn.mono_l k
  refine ⟨?_, ?_, ?_, ?_⟩
  ·intro y0 y1 y2 y3
   unfold berthinglaw32_TraceDrawn.l0
   repeat' first
   | (with_reducible exact ih0 _ _ _ _)
   | (with_reducible exact ih1 _ _ _ _ _)
   | (with_reducible exact ih2 _ _ _ _ _ _ _)
   | (with_reducible exact ih3 _ _ _ _ _ _ _ _ _)
   | (with_reducible exact berthinglaw32_one.mono _)
   | (with_reducible exact LeO.refl _)
   | (with_reducible exact LeO.none _)
   | (with_reducible refine LeO.ite ?_ ?_)
   | (with_reducible refine LeO.bind ?_ (fun _ => ?_))
   | exact ih0 _ _ _ _
   | exact ih1 _ _ _ _ _
   | exact ih2 _ _ _ _ _ _ _
   | exact ih3 _ _ _ _ _ _ _ _ _
   | exact berthinglaw32_one.mono _
   | exact LeO.none _
   | refine LeO.ite ?_ ?_
   | refine LeO.bind ?_ (fun _ => ?_)
  ·intro y0 y1 y2 y3 y4
   unfold berthinglaw32_TraceDrawn.l1
   repeat' first
   | (with_reducible exact ih0 _ _ _ _)
   | (with_reducible exact ih1 _ _ _ _ _)
   | (with_reducible exact ih2 _ _ _ _ _ _ _)
   | (with_reducible exact ih3 _ _ _ _ _ _ _ _ _)
   | (with_reducible exact berthinglaw32_one.mono _)
   | (with_reducible exact LeO.refl _)
   | (with_reducible exact LeO.none _)
   | (with_reducible refine LeO.ite ?_ ?_)
   | (with_reducible refine LeO.bind ?_ (fun _ => ?_))
   | exact ih0 _ _ _ _
   | exact ih1 _ _ _ _ _
   | exact ih2 _ _ _ _ _ _ _
   | exact ih3 _ _ _ _ _ _ _ _ _
   | exact berthinglaw32_one.mono _
   | exact LeO.none _
   | refine LeO.ite ?_ ?_
   | refine LeO.bind ?_ (fun _ => ?_)
  ·intro y0 y1 y2 y3 y4 y5 y6
   unfold berthinglaw32_TraceDrawn.l2
   repeat' first
   | (with_reducible exact ih0 _ _ _ _)
   | (with_reducible exact ih1 _ _ _ _ _)
   | (with_reducible exact ih2 _ _ _ _ _ _ _)
   | (with_reducible exact ih3 _ _ _ _ _ _ _ _ _)
   | (with_reducible exact berthinglaw32_one.mono _)
   | (with_reducible exact LeO.refl _)
   | (with_reducible exact LeO.none _)
   | (with_reducible refine LeO.ite ?_ ?_)
   | (with_reducible refine LeO.bind ?_ (fun _ => ?_))
   | exact ih0 _ _ _ _
   | exact ih1 _ _ _ _ _
   | exact ih2 _ _ _ _ _ _ _
   | exact ih3 _ _ _ _ _ _ _ _ _
   | exact berthinglaw32_one.mono _
   | exact LeO.none _
   | refine LeO.ite ?_ ?_
   | refine LeO.bind ?_ (fun _ => ?_)
  ·intro y0 y1 y2 y3 y4 y5 y6 y7 y8
   unfold berthinglaw32_TraceDrawn.j3
   repeat' first
   | (with_reducible exact ih0 _ _ _ _)
   | (with_reducible exact ih1 _ _ _ _ _)
   | (with_reducible exact ih2 _ _ _ _ _ _ _)
   | (with_reducible exact ih3 _ _ _ _ _ _ _ _ _)
   | (with_reducible exact berthinglaw32_one.mono _)
   | (with_reducible exact LeO.refl _)
   | (with_reducible exact LeO.none _)
   | (with_reducible refine LeO.ite ?_ ?_)
   | (with_reducible refine LeO.bind ?_ (fun _ => ?_))
   | exact ih0 _ _ _ _
   | exact ih1 _ _ _ _ _
   | exact ih2 _ _ _ _ _ _ _
   | exact ih3 _ _ _ _ _ _ _ _ _
   | exact berthinglaw32_one.mono _
   | exact LeO.none _
   | refine LeO.ite ?_ ?_
   | refine LeO.bind ?_ (fun _ => ?_)
theorem berthinglaw32_TraceDrawn.mono : ∀ a0 a1 a2 k, LeO (berthinglaw32_TraceDrawn.f k a0 a1 a2) (berthinglaw32_TraceDrawn.f (k + 1) a0 a1 a2) := by
 intro a0 a1 a2 k
 obtain ⟨ih0, ih1, ih2, ih3⟩ := berthinglaw32_TraceDrawn.mono_l k
 unfold berthinglaw32_TraceDrawn.f
 repeat' first
   | (with_reducible exact ih0 _ _ _ _)
   | (with_reducible exact ih1 _ _ _ _ _)
   | (with_reducible exact ih2 _ _ _ _ _ _ _)
   | (with_reducible exact ih3 _ _ _ _ _ _ _ _ _)
   | (with_reducible exact berthinglaw32_one.mono _)
   | (with_reducible exact LeO.refl _)
   | (with_reducible exact LeO.none _)
   | (with_reducible refine LeO.ite ?_ ?_)
   | (with_reducible refine LeO.bind ?_ (fun _ => ?_))
   | exact ih0 _ _ _ _
   | exact ih1 _ _ _ _ _
   | exact ih2 _ _ _ _ _ _ _
   | exact ih3 _ _ _ _ _ _ _ _ _
   | exact berthinglaw32_one.mono _
   | exact LeO.none _
   | refine LeO.ite ?_ ?_
   | refine LeO.bind ?_ (fun _ => ?_)
set_option maxHeartbeats 8000000 in
set_option maxRecDepth 100000 in
theorem berthinglaw32_TraceDrawn.calls (k : Nat) (A0 : Option Addr) (c0 : Nat) (l0 : List (S46)) (a1 : Int) (a2 : Int) (r : Bool) (w : World) (hT : Cur.ErrT w) (hr0 : Kd.C k46 w A0 l0.length l0) (hc0 : l0.length ≤ c0) (h : berthinglaw32_TraceDrawn.f k l0 a1 a2 = some r) :
  Calls Tryd.prog 6 #[.slice A0 l0.length c0, .int .i64 a1, .int .i64 a2] w fun e w' => e = .returned (.bool r) ∧ Below w.heap.size w w' := by
 have HR0 := Aside0.mk hr0
 have HC0 := Aside0.mk hc0
 clear hr0 hc0
 have HB := Aside0.mk (Below.refl w.heap.size w)
 have H : ((berthinglaw32_Tame.f l0 14).bind fun t285 => (berthinglaw32_TraceDrawn.l0 k t285 a1 a2 0)) = some r := h
 clear h
 replace H := Option.bind_eq_some_iff.mp H
 obtain ⟨t285, A40, H⟩ := H
 replace H : (berthinglaw32_TraceDrawn.l0 k t285 a1 a2 0) = some r := H
 have A4 := Aside0.mk A40
 clear A40
 have H' := Aside0.mk H
 clear H
 go_enter Tryd.func6, Tryd.ntmps6
 go_wp2_with (first | ((with_reducible refine gate_callee (f := 13) rfl ?_); refine goesL_ (some 14) rfl rfl Tryd.func13 (by kernel_rfl) rfl #[.slice A0 l0.length c0, .int .i64 14] rfl (by (try simp only [List.map_toArray, List.map_cons, List.map_nil]); first | done | rfl | (simp only [List.length_drop, List.length_take]; rfl)) ?_; (with_reducible refine (berthinglaw32_Tame.calls _ _ l0 14 t285 _ ?side1 ?side2 A4.out).mono ?_); (case side1 => repeat (first | exact HR0.out | (with_reducible refine Kd.C_alloc ?_ _) | (with_reducible refine Kd.C_drewN ?_ _) | (with_reducible refine Kd.C_drew ?_))); (case side2 => exact HC0.out); rintro e w5 ⟨v286, rfl, ho0, hb⟩; refine ⟨_, rfl, ?_⟩; have n0_ := Aside0.mk (Kd.R_lower ho0 (below_size (by repeat (first | (with_reducible first | exact HB.out | apply below_alloc | apply pw_below_drewN | apply below_drew1) | exact HB.out)))); have n1_ := Aside0.mk (below_step (by repeat (first | (with_reducible first | exact HB.out | apply below_alloc | apply pw_below_drewN | apply below_drew1) | exact HB.out)) hb); clear HB; have HO287 := n0_; have HB := n1_; clear n0_ n1_; (try clear hb); (try clear hb2); (try clear hk); (try clear hi); (try clear ho0)))
 go_loopg [7] k (fun kq v7 w' => ∃ (x0_1 : List (S46)) (x7_1 : Int), v7 = .int .i64 x7_1 ∧ Aside0 (berthinglaw32_TraceDrawn.l0 kq x0_1 a1 a2 x7_1 = some r) ∧ Aside0 (kq ≤ k) ∧ Aside0 (Kd.R k46 46 w' w.heap.size (fun _ => True) v286 x0_1) ∧ Aside0 (Below w.heap.size w w'))
 case atStart => exact ⟨(t285), (0), (by first | rfl | (simp; done) | (simp [*]; done)), H', ⟨Nat.le_refl _⟩, ⟨by (with_reducible repeat (first | apply Kd.R_alloc | apply Kd.R_drewN | apply Kd.R_drew)); exact HO287.out⟩, ⟨by repeat (first | (with_reducible first | exact HB.out | apply below_alloc | apply pw_below_drewN | apply below_drew1) | exact HB.out)⟩⟩
 case round =>
  clear H'
  try clear c1
  try clear p2
  obtain ⟨x0_1, x7_1, rfl, HA, HK1, HO_0, HB⟩ := hrel
  cases gk with
  | zero => exact absurd HA.out (by simp [berthinglaw32_TraceDrawn.l0])
  | succ k1 =>
   have H := HA.out
   clear HA
   simp only [berthinglaw32_TraceDrawn.l0] at H
   by_cases c6 : x7_1 < (x0_1.length : Int)
   ·rw [if_pos c6] at H
    have c6b0 : decide (x7_1 < (x0_1.length : Int)) = true := decide_eq_true c6
    clear c6
    by_cases c7 : 0 ≤ x7_1
    ·rw [if_pos c7] at H
     have c7b0 : decide (0 ≤ x7_1) = true := decide_eq_true c7
     clear c7
     obtain ⟨y289, hy289⟩ : ∃ y_ : List (S46), y_ = (x0_1.set (x7_1 : Int).toNat (⟨(rd_T46 x0_1 x7_1).f0, (rd_T46 x0_1 x7_1).f1, (rd_T46 x0_1 x7_1).f2, Go.bits .and .u64 ((rd_T46 x0_1 x7_1).f3) 255, (rd_T46 x0_1 x7_1).f4, (rd_T46 x0_1 x7_1).f5, (rd_T46 x0_1 x7_1).f6⟩ : S46)) := ⟨_, rfl⟩
     replace H : (berthinglaw32_TraceDrawn.l0 k1 y289 a1 a2 (wrap64 (x7_1 + 1))) = some r := by first | (rw [hy289]; with_reducible exact H) | (have H2_ := (Option.bind_some _ _).symm.trans H; rw [hy289]; with_reducible exact H2_) | (have H2_ := (Option.bind_some _ _).symm.trans H; with_reducible exact H2_) | with_reducible exact H | (rw [hy289]; exact H) | exact H
     have Ny289 := Aside0.mk hy289
     clear hy289
     have H' := Aside0.mk H
     clear H
     obtain ⟨Ao9, co9, eo9⟩ := Kd.R_slice HO_0.out
     subst eo9
     have p288 : 0 ≤ (x7_1 : Int) := of_decide_eq_true (by first | (with_reducible assumption) | assumption)
     have q288 : x7_1 < (x0_1.length : Int) := of_decide_eq_true (by first | (with_reducible assumption) | assumption)
     obtain ⟨ad288, e288, hx288_0, hx288_1, hx288_2, hx288_3, hx288_4, hx288_5, hx288_6⟩ := at_T46 (Kd.R_reads' HO_0.out).2.2 x7_1 p288 q288
     cases e288
     replace p288 := eq_true p288
     replace q288 := eq_true q288
     have p8 : 0 ≤ (x7_1 : Int) := of_decide_eq_true (by first | (with_reducible assumption) | assumption)
     have q8 : (x7_1 : Int) < ((x0_1.length : Int) : Int) := of_decide_eq_true (by first | (with_reducible assumption) | assumption)
     obtain ⟨go8, co8, eo8, gb8, gl8, cl8, HG8⟩ := Kd.R_form HO_0.out (by omega)
     (first | cases eo8 | (injection eo8 with ea_ en_ ec_; (first | subst ea_ | (injection ea_ with ea_; subst ea_)); subst ec_; clear en_))
     have GB8 := Aside0.mk gb8
     have GG8 := Aside0.mk HG8
     clear gb8 gl8 HG8
     (first | simp only [add_plain] at hx288_0 | skip)
     (first | simp only [add_plain] at hx288_1 | skip)
     (first | simp only [add_plain] at hx288_2 | skip)
     (first | simp only [add_plain] at hx288_3 | skip)
     (first | simp only [add_plain] at hx288_4 | skip)
     (first | simp only [add_plain] at hx288_5 | skip)
     (first | simp only [add_plain] at hx288_6 | skip)
     obtain ⟨ce8, hcl8, hM8, hcc8, hfr8⟩ := Kd.R_elem HO_0.out z46 (x7_1 : Int) p8 q8
     obtain rfl := k46_openM hM8
     have hx8_0 : wr.cell? ⟨go8, (x7_1 : Int).toNat * 7, none⟩ = some (.int .i64 ((rd_T46 x0_1 x7_1).f0)) := hcc8 0 _ rfl
     have hx8_1 : wr.cell? ⟨go8, (x7_1 : Int).toNat * 7 + 1, none⟩ = some (.int .i64 ((rd_T46 x0_1 x7_1).f1)) := hcc8 1 _ rfl
     have hx8_2 : wr.cell? ⟨go8, (x7_1 : Int).toNat * 7 + 2, none⟩ = some (.int .i64 ((rd_T46 x0_1 x7_1).f2)) := hcc8 2 _ rfl
     have hx8_3 : wr.cell? ⟨go8, (x7_1 : Int).toNat * 7 + 3, none⟩ = some (.int .u64 ((rd_T46 x0_1 x7_1).f3)) := hcc8 3 _ rfl
     have hx8_4 : wr.cell? ⟨go8, (x7_1 : Int).toNat * 7 + 4, none⟩ = some (.int .i64 ((rd_T46 x0_1 x7_1).f4)) := hcc8 4 _ rfl
     have hx8_5 : wr.cell? ⟨go8, (x7_1 : Int).toNat * 7 + 5, none⟩ = some (.bool ((rd_T46 x0_1 x7_1).f5)) := hcc8 5 _ rfl
     have hx8_6 : wr.cell? ⟨go8, (x7_1 : Int).toNat * 7 + 6, none⟩ = some (.int .i64 ((rd_T46 x0_1 x7_1).f6)) := hcc8 6 _ rfl
     have hf8_0 : wr.frozen? ⟨go8, (x7_1 : Int).toNat * 7, none⟩ = false := hfr8 0
     have hf8_1 : wr.frozen? ⟨go8, (x7_1 : Int).toNat * 7 + 1, none⟩ = false := hfr8 1
     have hf8_2 : wr.frozen? ⟨go8, (x7_1 : Int).toNat * 7 + 2, none⟩ = false := hfr8 2
     have hf8_3 : wr.frozen? ⟨go8, (x7_1 : Int).toNat * 7 + 3, none⟩ = false := hfr8 3
     have hf8_4 : wr.frozen? ⟨go8, (x7_1 : Int).toNat * 7 + 4, none⟩ = false := hfr8 4
     have hf8_5 : wr.frozen? ⟨go8, (x7_1 : Int).toNat * 7 + 5, none⟩ = false := hfr8 5
     have hf8_6 : wr.frozen? ⟨go8, (x7_1 : Int).toNat * 7 + 6, none⟩ = false := hfr8 6
     clear hcl8 hcc8 hfr8 hM8
     replace p8 := eq_true p8
     replace q8 := eq_true q8
     have HX10 := Aside0.mk (show Kd.R k46 46 wr w.heap.size (fun _ => True) (.slice (some ⟨go8, 0, none⟩) x0_1.length co9) x0_1 from (by (with_reducible repeat (first | apply Kd.R_alloc | apply Kd.R_drewN | apply Kd.R_drew)); exact HO_0.out))
     obtain ⟨ce10, hcl10, hM10, hcc10, hfr10⟩ := Kd.R_elem HX10.out z46 (x7_1 : Int) (of_decide_eq_true (by first | (with_reducible assumption) | assumption)) (by have h_ : (x7_1 : Int) < ((x0_1.length : Int) : Int) := of_decide_eq_true (by first | (with_reducible assumption) | assumption); first | exact h_ | (have e_ := (Kd.R_reads' HO_0.out).1; omega) | simpa using h_)
     obtain rfl := k46_openM hM10
     have HP10 := Kd.R_seg HX10.out (x7_1 : Int) (of_decide_eq_true (by first | (with_reducible assumption) | assumption)) (by have h_ : (x7_1 : Int) < ((x0_1.length : Int) : Int) := of_decide_eq_true (by first | (with_reducible assumption) | assumption); first | exact h_ | (have e_ := (Kd.R_reads' HO_0.out).1; omega) | simpa using h_) (seg := [.int .u64 (Go.bits .and .u64 ((rd_T46 x0_1 x7_1).f3) 255)]) (j := 3) hcl10 hcc10 (show 4 ≤ 7 from by decide) (x' := (⟨(rd_T46 x0_1 x7_1).f0, (rd_T46 x0_1 x7_1).f1, (rd_T46 x0_1 x7_1).f2, Go.bits .and .u64 ((rd_T46 x0_1 x7_1).f3) 255, (rd_T46 x0_1 x7_1).f4, (rd_T46 x0_1 x7_1).f5, (rd_T46 x0_1 x7_1).f6⟩ : S46)) (k46_mkM _ _ _ (⟨(rd_T46 x0_1 x7_1).f0, (rd_T46 x0_1 x7_1).f1, (rd_T46 x0_1 x7_1).f2, Go.bits .and .u64 ((rd_T46 x0_1 x7_1).f3) 255, (rd_T46 x0_1 x7_1).f4, (rd_T46 x0_1 x7_1).f5, (rd_T46 x0_1 x7_1).f6⟩ : S46) ) (fun _ hk => hk)
     have hx10_3 := hcc10 3 _ rfl
     (try simp only [show (k46).sz = 7 from rfl, Nat.mul_one, Nat.add_zero] at hx10_3)
     have hf10_3 := hfr10 3
     (try simp only [show (k46).sz = 7 from rfl, Nat.mul_one, Nat.add_zero] at hf10_3)
     clear hcl10 hcc10 hfr10 hM10
     go_wp2_with (first | ((with_reducible refine gate_store (t := 44) (p := 30) rfl ?_); refine store_event (t := 44) (p := 30) (v := ?vo_w11) (w1 := (wr.setCell ⟨go8, (x7_1 : Int).toNat * 7 + 3, none⟩ (.int .u64 (Go.bits .and .u64 ((rd_T46 x0_1 x7_1).f3) 255)))) ?hg ?ho ?hn ?hr ?_; (case ho => rfl); (case hg => rfl); (case hn => rfl); (case hr => first | (go_simp; done) | (go_simp; rfl)); intro w11 hw; have hg : wr.grownBy w11 (some go8) := (by rw [hw]; exact HP10.2); have hp_ : Kd.R k46 46 w11 w.heap.size (fun _ => True) (.slice (some ⟨go8, 0, none⟩) x0_1.length co9) y289 := (by rw [hw, Ny289.out]; exact HP10.1); clear HP10; have n0_ := Aside0.mk (hp_); have n1_ := Aside0.mk ((by rw [hw]; exact below_set (HB.out) GB8.out : Below w.heap.size w w11)); clear HO_0; clear HB; have HO_0 := n0_; have HB := n1_; clear n0_ n1_; clear hg hw hp_))
     go_roundg k1
     case measure => have := HK1.out; omega
     case rel => exact ⟨(y289), (wrap64 (x7_1 + 1)), (by first | rfl | (simp; done) | (simp [*]; done)), H', ⟨by have := HK1.out; omega⟩, ⟨by (with_reducible repeat (first | apply Kd.R_alloc | apply Kd.R_drewN | apply Kd.R_drew)); exact HO_0.out⟩, ⟨by repeat (first | (with_reducible first | exact HB.out | apply below_alloc | apply pw_below_drewN | apply below_drew1) | exact HB.out)⟩⟩
    ·rw [if_neg c7] at H
     exact absurd H (by simp)
   ·rw [if_neg c6] at H
    have c6b0 : decide (x7_1 < (x0_1.length : Int)) = false := decide_eq_false c6
    clear c6
    replace H := Option.bind_eq_some_iff.mp H
    obtain ⟨t290, A120, H⟩ := H
    replace H : (if (t290.size : Int) = (wrap64 (8 * (wrap64 ((Go.bits .and .i64 a2 31) + 1)))) then (berthinglaw32_TraceDrawn.l1 k1 x0_1 (Go.bits .and .i64 a1 255) (Go.bits .and .i64 a2 31) t290 0) else (none)) = some r := H
    have A12 := Aside0.mk A120
    clear A120
    by_cases c13 : (t290.size : Int) = (wrap64 (8 * (wrap64 ((Go.bits .and .i64 a2 31) + 1))))
    ·rw [if_pos c13] at H
     have c13b0 : ((t290.size : Int) == (wrap64 (8 * (wrap64 ((Go.bits .and .i64 a2 31) + 1))))) = true := beq_iff_eq.mpr c13
     have c13b1 : ((t290.size : Int) != (wrap64 (8 * (wrap64 ((Go.bits .and .i64 a2 31) + 1))))) = false := bne_eq_false_iff_eq.mpr c13
     clear c13
     have H' := Aside0.mk H
     clear H
     obtain ⟨Ao14, co14, eo14⟩ := Kd.R_slice HO_0.out
     subst eo14
     go_wp2_with (first | ((with_reducible refine gate_callee (f := 14) rfl ?_); refine goesL_ (some 38) rfl rfl Tryd.func14 (by kernel_rfl) rfl #[.slice Ao14 x0_1.length co14, .int .i64 0, .int .i64 8, .int .i64 (Go.bits .and .i64 a1 255), .int .i64 (Go.bits .and .i64 a2 31)] rfl (by (try simp only [List.map_toArray, List.map_cons, List.map_nil]); first | done | rfl | (simp only [List.length_drop, List.length_take]; rfl)) ?_; (with_reducible refine (trace_Draw.calls _ _ x0_1 0 8 (Go.bits .and .i64 a1 255) (Go.bits .and .i64 a2 31) t290 _ ?side1 ?side2 A12.out).mono ?_); (case side1 => repeat (first | exact (Kd.R_reads' HO_0.out).2.2 | (with_reducible refine Kd.C_alloc ?_ _) | (with_reducible refine Kd.C_drewN ?_ _) | (with_reducible refine Kd.C_drew ?_))); (case side2 => exact (Kd.R_reads' HO_0.out).2.1); rintro e w15 ⟨rfl, hb⟩; refine ⟨_, rfl, ?_⟩; have n0_ := Aside0.mk (Kd.R_below (by (with_reducible repeat (first | apply Kd.R_alloc | apply Kd.R_drewN | apply Kd.R_drew)); exact HO_0.out) hb); have n1_ := Aside0.mk (below_step (by repeat (first | (with_reducible first | exact HB.out | apply below_alloc | apply pw_below_drewN | apply below_drew1) | exact HB.out)) hb); clear HO_0; clear HB; have HO_0 := n0_; have HB := n1_; clear n0_ n1_; (try clear hb); (try clear hb2); (try clear hk); (try clear hi)))
     go_loopg [9] k1 (fun kq v9 w' => ∃ (x9_2 : Int), v9 = .int .i64 x9_2 ∧ Aside0 (berthinglaw32_TraceDrawn.l1 kq x0_1 (Go.bits .and .i64 a1 255) (Go.bits .and .i64 a2 31) t290 x9_2 = some r) ∧ Aside0 (kq ≤ k1) ∧ Aside0 (Kd.R k46 46 w' w.heap.size (fun _ => True) (.slice Ao14 x0_1.length co14) x0_1) ∧ Aside0 (Below w.heap.size w w'))
     case atStart => exact ⟨(0), (by first | rfl | (simp; done) | (simp [*]; done)), H', ⟨Nat.le_refl _⟩, ⟨by (with_reducible repeat (first | apply Kd.R_alloc | apply Kd.R_drewN | apply Kd.R_drew)); exact HO_0.out⟩, ⟨by repeat (first | (with_reducible first | exact HB.out | apply below_alloc | apply pw_below_drewN | apply below_drew1) | exact HB.out)⟩⟩
     case round =>
      clear H'
      try clear c1
      try clear hx1
      try clear p2
      try clear q2
      try clear hx2
      try clear c6
      try clear c6b0
      try clear p6
      try clear c7
      try clear c7b0
      try clear c8
      try clear p8
      try clear q8
      try clear hx8
      try clear hf8
      try clear c10
      try clear hx10
      try clear hf10
      try clear c13
      try clear c13b0
      try clear c13b1
      try clear c14
      try clear hx10_3
      try clear hx288_0
      try clear hx288_1
      try clear hx288_2
      try clear hx288_3
      try clear hx288_4
      try clear hx288_5
      try clear hx288_6
      try clear hx8_0
      try clear hx8_1
      try clear hx8_2
      try clear hx8_3
      try clear hx8_4
      try clear hx8_5
      try clear hx8_6
      try clear p2
      try clear p288
      try clear p8
      try clear q288
      try clear q8
      obtain ⟨x9_2, rfl, HA, HK2, HO_0, HB⟩ := hrel
      cases gk with
      | zero => exact absurd HA.out (by simp [berthinglaw32_TraceDrawn.l1])
      | succ k2 =>
       have H := HA.out
       clear HA
       simp only [berthinglaw32_TraceDrawn.l1] at H
       by_cases c16 : x9_2 < (Go.bits .and .i64 a2 31)
       ·rw [if_pos c16] at H
        have c16b0 : decide (x9_2 < (Go.bits .and .i64 a2 31)) = true := decide_eq_true c16
        clear c16
        have H' := Aside0.mk H
        clear H
        go_wp2
        go_loopg [10, 11] k2 (fun kq v10 v11 w' => ∃ (x10_3 : Int) (x11_3 : Int), v10 = .int .i64 x10_3 ∧ v11 = .int .i64 x11_3 ∧ Aside0 (berthinglaw32_TraceDrawn.l2 kq x0_1 (Go.bits .and .i64 a1 255) (Go.bits .and .i64 a2 31) t290 x9_2 x10_3 x11_3 = some r) ∧ Aside0 (kq ≤ k2) ∧ Aside0 (Kd.R k46 46 w' w.heap.size (fun _ => True) (.slice Ao14 x0_1.length co14) x0_1) ∧ Aside0 (Below w.heap.size w w'))
        case atStart => exact ⟨(0), (0), (by first | rfl | (simp; done) | (simp [*]; done)), (by first | rfl | (simp; done) | (simp [*]; done)), H', ⟨Nat.le_refl _⟩, ⟨by (with_reducible repeat (first | apply Kd.R_alloc | apply Kd.R_drewN | apply Kd.R_drew)); exact HO_0.out⟩, ⟨by repeat (first | (with_reducible first | exact HB.out | apply below_alloc | apply pw_below_drewN | apply below_drew1) | exact HB.out)⟩⟩
        case round =>
         clear H'
         try clear c1
         try clear hx1
         try clear p2
         try clear q2
         try clear hx2
         try clear c6
         try clear c6b0
         try clear p6
         try clear c7
         try clear c7b0
         try clear c8
         try clear p8
         try clear q8
         try clear hx8
         try clear hf8
         try clear c10
         try clear hx10
         try clear hf10
         try clear c13
         try clear c13b0
         try clear c13b1
         try clear c14
         try clear c16
         try clear c16b0
         try clear hx10_3
         try clear hx288_0
         try clear hx288_1
         try clear hx288_2
         try clear hx288_3
         try clear hx288_4
         try clear hx288_5
         try clear hx288_6
         try clear hx8_0
         try clear hx8_1
         try clear hx8_2
         try clear hx8_3
         try clear hx8_4
         try clear hx8_5
         try clear hx8_6
         try clear p2
         try clear p288
         try clear p6
         try clear p8
         try clear q2
         try clear q288
         try clear q8
         obtain ⟨x10_3, x11_3, rfl, rfl, HA, HK3, HO_0, HB⟩ := hrel
         cases gk with
         | zero => exact absurd HA.out (by simp [berthinglaw32_TraceDrawn.l2])
         | succ k3 =>
          have H := HA.out
          clear HA
          simp only [berthinglaw32_TraceDrawn.l2] at H
          by_cases c17 : x11_3 < 8
          ·rw [if_pos c17] at H
           have c17b0 : decide (x11_3 < 8) = true := decide_eq_true c17
           clear c17
           obtain ⟨ji18, hji18⟩ : ∃ j_ : Int, (wrap64 ((wrap64 (x11_3 * (wrap64 ((Go.bits .and .i64 a2 31) + 1)))) + x9_2)) = j_ := ⟨_, rfl⟩
           replace H : (if 0 ≤ (ji18) then (if (ji18) < (t290.size : Int) then (if (bt t290 (ji18)) ≥ 48 then (berthinglaw32_TraceDrawn.j3 k3 x0_1 (Go.bits .and .i64 a1 255) (Go.bits .and .i64 a2 31) t290 x9_2 x10_3 x11_3 (bt t290 (ji18)) (decide ((bt t290 (ji18)) ≤ 57))) else (berthinglaw32_TraceDrawn.j3 k3 x0_1 (Go.bits .and .i64 a1 255) (Go.bits .and .i64 a2 31) t290 x9_2 x10_3 x11_3 (bt t290 (ji18)) false)) else (none)) else (none)) = some r := by first | (rw [hji18] at H; exact H) | (simp only [hji18] at H ⊢; exact H)
           have hji18w : (IntKind.i64.wrap ((wrap64 (x11_3 * (wrap64 ((Go.bits .and .i64 a2 31) + 1)))) + x9_2)) = ji18 := (i64_w _).trans hji18
           by_cases c19 : 0 ≤ (ji18)
           ·rw [if_pos c19] at H
            have c19b0 : decide (0 ≤ (ji18)) = true := decide_eq_true c19
            clear c19
            by_cases c20 : (ji18) < (t290.size : Int)
            ·rw [if_pos c20] at H
             have c20b0 : decide ((ji18) < (t290.size : Int)) = true := decide_eq_true c20
             clear c20
             have HC22 := Aside0.mk H
             clear H
             have p21 : 0 ≤ ((ji18) : Int) := of_decide_eq_true (by first | (with_reducible assumption) | assumption)
             have q21 : (ji18) < (t290.size : Int) := of_decide_eq_true (by first | (with_reducible assumption) | assumption)
             have hx21 := bt_at t290 (ji18)
             replace p21 := eq_true p21
             replace q21 := eq_true q21
             go_upto_region 19 with (fail)
             go_cut [67] (fun v67 wc => ∃ (kq : Nat) (x67_21 : Bool), v67 = .bool x67_21 ∧ Aside0 (berthinglaw32_TraceDrawn.j3 kq x0_1 (Go.bits .and .i64 a1 255) (Go.bits .and .i64 a2 31) t290 x9_2 x10_3 x11_3 (bt t290 (ji18)) x67_21 = some r) ∧ Aside0 (kq ≤ k3) ∧ Aside0 (Kd.R k46 46 wc w.heap.size (fun _ => True) (.slice Ao14 x0_1.length co14) x0_1) ∧ Aside0 (Below w.heap.size w wc))
             case first =>
              have H := HC22.out
              clear HC22
              by_cases c23 : (bt t290 (ji18)) ≥ 48
              ·rw [if_pos c23] at H
               have c23b0 : decide (48 ≤ (bt t290 (ji18))) = true := decide_eq_true c23
               clear c23
               (first | rw [c23b0] | (simp only [i64_w, i32_w]; rw [c23b0]) | skip)
               have H' := Aside0.mk H
               clear H
               go_wp2
               go_meet
               case rel => exact ⟨_, (decide ((bt t290 (ji18)) ≤ 57)), (by first | rfl | (simp; done) | (simp only [← hji18] <;> (first | rfl | simp)) | (simp [*]; done)), H', ⟨by have := HK1.out; have := HK2.out; have := HK3.out; first | omega | exact Nat.le_refl _⟩, ⟨by (with_reducible repeat (first | apply Kd.R_alloc | apply Kd.R_drewN | apply Kd.R_drew)); exact HO_0.out⟩, ⟨by repeat (first | (with_reducible first | exact HB.out | apply below_alloc | apply pw_below_drewN | apply below_drew1) | exact HB.out)⟩⟩
              ·rw [if_neg c23] at H
               have c23b0 : decide (48 ≤ (bt t290 (ji18))) = false := decide_eq_false c23
               clear c23
               (first | rw [c23b0] | (simp only [i64_w, i32_w]; rw [c23b0]) | skip)
               have H' := Aside0.mk H
               clear H
               go_wp2
               go_meet
               case rel => exact ⟨_, (false), (by first | rfl | (simp; done) | (simp [*]; done)), H', ⟨by have := HK1.out; have := HK2.out; have := HK3.out; first | omega | exact Nat.le_refl _⟩, ⟨by (with_reducible repeat (first | apply Kd.R_alloc | apply Kd.R_drewN | apply Kd.R_drew)); exact HO_0.out⟩, ⟨by repeat (first | (with_reducible first | exact HB.out | apply below_alloc | apply pw_below_drewN | apply below_drew1) | exact HB.out)⟩⟩
             case rest =>
              clear HC22
              try clear c1
              try clear hx1
              try clear c2
              try clear p2
              try clear q2
              try clear hx2
              try clear c6
              try clear c6b0
              try clear p6
              try clear c7
              try clear c7b0
              try clear c8
              try clear p8
              try clear q8
              try clear hx8
              try clear hf8
              try clear c10
              try clear hx10
              try clear hf10
              try clear c13
              try clear c13b0
              try clear c13b1
              try clear c14
              try clear c16
              try clear c16b0
              try clear c17
              try clear c17b0
              try clear c19
              try clear c19b0
              try clear c20
              try clear c20b0
              try clear p21
              try clear q21
              try clear hx21
              try clear c23
              try clear c23b0
              try clear hx10_3
              try clear hx288_0
              try clear hx288_1
              try clear hx288_2
              try clear hx288_3
              try clear hx288_4
              try clear hx288_5
              try clear hx288_6
              try clear hx8_0
              try clear hx8_1
              try clear hx8_2
              try clear hx8_3
              try clear hx8_4
              try clear hx8_5
              try clear hx8_6
              try clear p2
              try clear p21
              try clear p288
              try clear p6
              try clear p8
              try clear q2
              try clear q21
              try clear q288
              try clear q8
              obtain ⟨kq, x67_21, rfl, HA, HJ21, HO_0, HB⟩ := hcut
              cases kq with
              | zero => exact absurd HA.out (by simp [berthinglaw32_TraceDrawn.j3])
              | succ kj21 =>
               have H := HA.out
               clear HA
               simp only [berthinglaw32_TraceDrawn.j3] at H
               by_cases c24 : x67_21 = true
               ·subst c24
                have H1 : (berthinglaw32_TraceDrawn.l2 kj21 x0_1 (Go.bits .and .i64 a1 255) (Go.bits .and .i64 a2 31) t290 x9_2 (wrap64 (x10_3 + 1)) (wrap64 (x11_3 + 1))) = some r := by rw [if_pos rfl] at H; exact H
                clear H
                have H := H1
                clear H1
                have H' := Aside0.mk H
                clear H
                go_wp2
                go_roundg kj21
                case measure => have := HK1.out; have := HK2.out; have := HK3.out; have := HJ21.out; omega
                case rel => exact ⟨(wrap64 (x10_3 + 1)), (wrap64 (x11_3 + 1)), (by first | rfl | (simp; done) | (simp [*]; done)), (by first | rfl | (simp; done) | (simp [*]; done)), H', ⟨by have := HK1.out; have := HK2.out; have := HK3.out; have := HJ21.out; omega⟩, ⟨by (with_reducible repeat (first | apply Kd.R_alloc | apply Kd.R_drewN | apply Kd.R_drew)); exact HO_0.out⟩, ⟨by repeat (first | (with_reducible first | exact HB.out | apply below_alloc | apply pw_below_drewN | apply below_drew1) | exact HB.out)⟩⟩
               ·replace c24 := Bool.eq_false_iff.mpr c24
                subst c24
                have H1 : (if (bt t290 (ji18)) = 46 then (berthinglaw32_TraceDrawn.l2 kj21 x0_1 (Go.bits .and .i64 a1 255) (Go.bits .and .i64 a2 31) t290 x9_2 x10_3 (wrap64 (x11_3 + 1))) else (none)) = some r := by rw [if_neg (show ¬ (false = true) by decide)] at H; exact H
                clear H
                have H := H1
                clear H1
                by_cases c25 : (bt t290 (ji18)) = 46
                ·rw [if_pos c25] at H
                 have c25b0 : ((bt t290 (ji18)) == 46) = true := beq_iff_eq.mpr c25
                 have c25b1 : ((bt t290 (ji18)) != 46) = false := bne_eq_false_iff_eq.mpr c25
                 clear c25
                 have H' := Aside0.mk H
                 clear H
                 go_wp2
                 go_roundg kj21
                 case measure => have := HK1.out; have := HK2.out; have := HK3.out; have := HJ21.out; omega
                 case rel => exact ⟨(x10_3), (wrap64 (x11_3 + 1)), (by first | rfl | (simp; done) | (simp [*]; done)), (by first | rfl | (simp; done) | (simp [*]; done)), H', ⟨by have := HK1.out; have := HK2.out; have := HK3.out; have := HJ21.out; omega⟩, ⟨by (with_reducible repeat (first | apply Kd.R_alloc | apply Kd.R_drewN | apply Kd.R_drew)); exact HO_0.out⟩, ⟨by repeat (first | (with_reducible first | exact HB.out | apply below_alloc | apply pw_below_drewN | apply below_drew1) | exact HB.out)⟩⟩
                ·rw [if_neg c25] at H
                 exact absurd H (by simp)
            ·rw [if_neg c20] at H
             exact absurd H (by simp)
           ·rw [if_neg c19] at H
            exact absurd H (by simp)
          ·rw [if_neg c17] at H
           have c17b0 : decide (x11_3 < 8) = false := decide_eq_false c17
           clear c17
           replace H := Option.bind_eq_some_iff.mp H
           obtain ⟨t292, A260, H⟩ := H
           replace H : (if x10_3 = t292 then (berthinglaw32_TraceDrawn.l1 k3 x0_1 (Go.bits .and .i64 a1 255) (Go.bits .and .i64 a2 31) t290 (wrap64 (x9_2 + 1))) else (none)) = some r := H
           have A26 := Aside0.mk A260
           clear A260
           by_cases c27 : x10_3 = t292
           ·rw [if_pos c27] at H
            have c27b0 : (x10_3 == t292) = true := beq_iff_eq.mpr c27
            have c27b1 : (x10_3 != t292) = false := bne_eq_false_iff_eq.mpr c27
            clear c27
            have H' := Aside0.mk H
            clear H
            go_wp2_with (first | ((with_reducible refine gate_callee (f := 16) rfl ?_); refine goesL_ (some 77) rfl rfl Tryd.func16 (by kernel_rfl) rfl #[.slice Ao14 x0_1.length co14, .int .i64 0, .int .i64 (wrap64 ((Go.bits .and .i64 a1 255) + x9_2))] rfl (by (try simp only [List.map_toArray, List.map_cons, List.map_nil]); first | done | rfl | (simp only [List.length_drop, List.length_take]; rfl)) ?_; (with_reducible refine (trace_Busy.calls _ _ x0_1 0 (wrap64 ((Go.bits .and .i64 a1 255) + x9_2)) t292 _ ?side1 ?side2 A26.out).mono ?_); (case side1 => repeat (first | exact (Kd.R_reads' HO_0.out).2.2 | (with_reducible refine Kd.C_alloc ?_ _) | (with_reducible refine Kd.C_drewN ?_ _) | (with_reducible refine Kd.C_drew ?_))); (case side2 => exact (Kd.R_reads' HO_0.out).2.1); rintro e w28 ⟨rfl, hb⟩; refine ⟨_, rfl, ?_⟩; have n0_ := Aside0.mk (Kd.R_below (by (with_reducible repeat (first | apply Kd.R_alloc | apply Kd.R_drewN | apply Kd.R_drew)); exact HO_0.out) hb); have n1_ := Aside0.mk (below_step (by repeat (first | (with_reducible first | exact HB.out | apply below_alloc | apply pw_below_drewN | apply below_drew1) | exact HB.out)) hb); clear HO_0; clear HB; have HO_0 := n0_; have HB := n1_; clear n0_ n1_; (try clear hb); (try clear hb2); (try clear hk); (try clear hi)))
            go_roundg k3
            case measure => have := HK1.out; have := HK2.out; have := HK3.out; omega
            case rel => exact ⟨(wrap64 (x9_2 + 1)), (by first | rfl | (simp; done) | (simp [*]; done)), H', ⟨by have := HK1.out; have := HK2.out; have := HK3.out; omega⟩, ⟨by (with_reducible repeat (first | apply Kd.R_alloc | apply Kd.R_drewN | apply Kd.R_drew)); exact HO_0.out⟩, ⟨by repeat (first | (with_reducible first | exact HB.out | apply below_alloc | apply pw_below_drewN | apply below_drew1) | exact HB.out)⟩⟩
           ·rw [if_neg c27] at H
            exact absurd H (by simp)
       ·rw [if_neg c16] at H
        have c16b0 : decide (x9_2 < (Go.bits .and .i64 a2 31)) = false := decide_eq_false c16
        clear c16
        replace H := Option.bind_eq_some_iff.mp H
        obtain ⟨t291, A290, H⟩ := H
        replace H : (some t291) = some r := H
        have A29 := Aside0.mk A290
        clear A290
        obtain rfl := Option.some.inj H
        go_wp2_with (first | ((with_reducible refine gate_callee (f := 12) rfl ?_); refine goesL_ (some 79) rfl rfl Tryd.func12 (by kernel_rfl) rfl #[] rfl (by (try simp only [List.map_toArray, List.map_cons, List.map_nil]); first | done | rfl | (simp only [List.length_drop, List.length_take]; rfl)) ?_; (with_reducible refine (berthinglaw32_one.calls k2  t291 _ (Cur.ErrT.go (by repeat (first | (with_reducible first | exact HB.out | apply below_alloc | apply pw_below_drewN | apply below_drew1) | exact HB.out)) hT) A29.out).mono ?_); rintro e w30 ⟨rfl, hb⟩; refine ⟨_, rfl, ?_⟩; have n0_ := Aside0.mk (Kd.R_below (by (with_reducible repeat (first | apply Kd.R_alloc | apply Kd.R_drewN | apply Kd.R_drew)); exact HO_0.out) hb); have n1_ := Aside0.mk (below_step (by repeat (first | (with_reducible first | exact HB.out | apply below_alloc | apply pw_below_drewN | apply below_drew1) | exact HB.out)) hb); clear HO_0; clear HB; have HO_0 := n0_; have HB := n1_; clear n0_ n1_; (try clear hb); (try clear hb2); (try clear hk); (try clear hi)))
        go_ret
        exact ⟨by first | rfl | (simp [errW_none, errW_some] <;> rfl) | (simp [*, errW_none, errW_some] <;> rfl), by repeat (first | (with_reducible first | exact HB.out | apply below_alloc | apply pw_below_drewN | apply below_drew1) | exact HB.out)⟩
    ·rw [if_neg c13] at H
     exact absurd H (by simp)

end Go.Proofs.YtdpomgfibjlehaaDoor.PTr
