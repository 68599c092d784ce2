/- By a program of this session (the print, with contracts written by hand let in), key Tick: what the functions come to as Lean functions, and the contracts that lead from the Go code to them. Conditions: those of the statements. -/
import Derived.Test.YtgdlhfmdgibkbaaPTickx0
import Derived.Test.YtgdlhfmdgibkbaaPTickx1
import Derived.Test.YtgdlhfmdgibkbaaPTickx3
import Derived.Test.YtgdlhfmdgibkbaaPTickx4
import Derived.Test.YtgdlhfmdgibkbaaPTickx5
import Derived.Test.YtgdlhfmdgibkbaaPTickx6
import Derived.Test.YtgdlhfmdgibkbaaSort
namespace Go.Proofs.Ytgdlhfmdgibkbaa.PTick
open Go.RowKit Go.Proofs.YtgdlhfmdgibkbaaW.PrintWords Go.Proofs.YtgdlhfmdgibkbaaW.PrintLast Go.Proofs.YtgdlhfmdgibkbaaW.PrintMore
attribute [local go_sem] max2_int min2_int max_two min_two max_three min_three max_four min_four   -- for this text's walks alone
set_option linter.unusedVariables false
set_option linter.unusedSimpArgs false

attribute [local go_sem high] eqA25
/-! ### berthinglaw01_TickJoins_F: function 3 -/
mutual
def berthinglaw01_TickJoins_F.l0 : Nat → List (S29) → List (S25) → Int → Option (Bool)
 | 0, _, _, _ => none
 | k + 1, x0, x3, x4 => if x4 < (x0.length : Int) then (if 0 ≤ x4 then ((berthinglaw01_Own.f ((rd_T29 x0 x4).f0) ((rd_T29 x0 x4).f1)).bind fun bt192 => (if x3.length < 8796093022208 then (berthinglaw01_TickJoins_F.l0 k x0 (x3 ++ [(⟨bt192.1, bt192.2⟩ : S25)]) (wrap64 (x4 + 1))) else (none))) else (none)) else ((tick_Join.f k x0).bind fun t197 => ((berthingref01_Join.f k x3).bind fun t200 => (if (t197.length : Int) = (t200.length : Int) then (berthinglaw01_TickJoins_F.l1 k t197 t200 0) else (none))))
def berthinglaw01_TickJoins_F.l1 : Nat → List (S29) → List (S25) → Int → Option (Bool)
 | 0, _, _, _ => none
 | k + 1, x5, x6, x7 => if x7 < (x5.length : Int) then (if 0 ≤ x7 then ((berthinglaw01_Own.f ((rd_T29 x5 x7).f0) ((rd_T29 x5 x7).f1)).bind fun bt204 => (if x7 < (x6.length : Int) then (if (!(bt204.1 == ((rd_T25 x6 x7).f0)) || (!(bt204.2 == ((rd_T25 x6 x7).f1)))) = true then (none) else (berthinglaw01_TickJoins_F.l1 k x5 x6 (wrap64 (x7 + 1)))) else (none))) else (none)) else ((berthinglaw01_one.f k).bind fun t207 => (some t207))
end
def berthinglaw01_TickJoins_F.f (k : Nat) (l0 : List (S29)) : Option (Bool) := if (l0.length : Int) > 60 then (none) else (berthinglaw01_TickJoins_F.l0 k l0 ([] : List (S25)) 0)
theorem berthinglaw01_TickJoins_F.mono_l : ∀ k, (∀ y0 y1 y2, LeO (berthinglaw01_TickJoins_F.l0 k y0 y1 y2) (berthinglaw01_TickJoins_F.l0 (k + 1) y0 y1 y2)) ∧ (∀ y0 y1 y2, LeO (berthinglaw01_TickJoins_F.l1 k y0 y1 y2) (berthinglaw01_TickJoins_F.l1 (k + 1) y0 y1 y2))
 | 0 => ⟨fun _ _ _ r h => by simp [berthinglaw01_TickJoins_F.l0] at h, fun _ _ _ r h => by simp [berthinglaw01_TickJoins_F.l1] at h⟩
 | k + 1 => by
  obtain ⟨ih0, ih1⟩ := berthinglaw01_TickJoins_F.mono_l k
  refine ⟨?_, ?_⟩
  ·intro y0 y1 y2
   unfold berthinglaw01_TickJoins_F.l0
   repeat' first
   | (with_reducible exact ih0 _ _ _)
   | (with_reducible exact ih1 _ _ _)
   | (with_reducible exact berthinglaw01_one.mono _)
   | (with_reducible exact berthingref01_Join.mono _ _)
   | (with_reducible exact tick_Join.mono _ _)
   | (with_reducible exact LeO.refl _)
   | (with_reducible exact LeO.none _)
   | (with_reducible refine LeO.ite ?_ ?_)
   | (with_reducible refine LeO.bind ?_ (fun _ => ?_))
   | exact ih0 _ _ _
   | exact ih1 _ _ _
   | exact berthinglaw01_one.mono _
   | exact berthingref01_Join.mono _ _
   | exact tick_Join.mono _ _
   | exact LeO.none _
   | refine LeO.ite ?_ ?_
   | refine LeO.bind ?_ (fun _ => ?_)
  ·intro y0 y1 y2
   unfold berthinglaw01_TickJoins_F.l1
   repeat' first
   | (with_reducible exact ih0 _ _ _)
   | (with_reducible exact ih1 _ _ _)
   | (with_reducible exact berthinglaw01_one.mono _)
   | (with_reducible exact berthingref01_Join.mono _ _)
   | (with_reducible exact tick_Join.mono _ _)
   | (with_reducible exact LeO.refl _)
   | (with_reducible exact LeO.none _)
   | (with_reducible refine LeO.ite ?_ ?_)
   | (with_reducible refine LeO.bind ?_ (fun _ => ?_))
   | exact ih0 _ _ _
   | exact ih1 _ _ _
   | exact berthinglaw01_one.mono _
   | exact berthingref01_Join.mono _ _
   | exact tick_Join.mono _ _
   | exact LeO.none _
   | refine LeO.ite ?_ ?_
   | refine LeO.bind ?_ (fun _ => ?_)
theorem berthinglaw01_TickJoins_F.mono : ∀ a0 k, LeO (berthinglaw01_TickJoins_F.f k a0) (berthinglaw01_TickJoins_F.f (k + 1) a0) := by
 intro a0 k
 obtain ⟨ih0, ih1⟩ := berthinglaw01_TickJoins_F.mono_l k
 unfold berthinglaw01_TickJoins_F.f
 repeat' first
   | (with_reducible exact ih0 _ _ _)
   | (with_reducible exact ih1 _ _ _)
   | (with_reducible exact berthinglaw01_one.mono _)
   | (with_reducible exact berthingref01_Join.mono _ _)
   | (with_reducible exact tick_Join.mono _ _)
   | (with_reducible exact LeO.refl _)
   | (with_reducible exact LeO.none _)
   | (with_reducible refine LeO.ite ?_ ?_)
   | (with_reducible refine LeO.bind ?_ (fun _ => ?_))
   | exact ih0 _ _ _
   | exact ih1 _ _ _
   | exact berthinglaw01_one.mono _
   | exact berthingref01_Join.mono _ _
   | exact tick_Join.mono _ _
   | exact LeO.none _
   | refine LeO.ite ?_ ?_
   | refine LeO.bind ?_ (fun _ => ?_)
def berthinglaw01_TickJoins_F.T14 : Bool × List (List Nat × List Nat) := (true, [([], []), ([], []), ([0, 1], [0, 1]), ([2], [2]), ([3], [3]), ([], []), ([], []), ([5, 6], [5, 6]), ([7], [7]), ([4, 8], [4, 8])])
def berthinglaw01_TickJoins_F.B14 : List Nat := [0, 0, 3, 7, 15, 0, 0, 96, 224, 511]
theorem berthinglaw01_TickJoins_F.tab14 : rtab .any (opsOf Try.f3 14) = berthinglaw01_TickJoins_F.T14 := by kernel_rfl
theorem berthinglaw01_TickJoins_F.bits14 : waitsOk berthinglaw01_TickJoins_F.T14.2 berthinglaw01_TickJoins_F.B14 = true := by kernel_rfl
set_option maxHeartbeats 8000000 in
set_option maxRecDepth 100000 in
theorem berthinglaw01_TickJoins_F.calls (k : Nat) (A0 : Option Addr) (c0 : Nat) (l0 : List (S29)) (r : Bool) (w : World) (hr0 : Kd.C k29 w A0 l0.length l0) (hc0 : l0.length ≤ c0) (h : berthinglaw01_TickJoins_F.f k l0 = some r) :
  Calls Try.prog 3 #[.slice A0 l0.length c0] w fun e w' => e = .returned (.bool r) ∧ Below w.heap.size w w' := by
 have hu29 := Try.underlying29
 have hu25 := Try.underlying25
 have HR0 := Aside0.mk hr0
 have HC0 := Aside0.mk hc0
 clear hr0 hc0
 have HB := Aside0.mk (Below.refl w.heap.size w)
 have H : (if (l0.length : Int) > 60 then (none) else (berthinglaw01_TickJoins_F.l0 k l0 ([] : List (S25)) 0)) = some r := h
 clear h
 by_cases c2 : (l0.length : Int) > 60
 ·rw [if_pos c2] at H
  exact absurd H (by simp)
 ·rw [if_neg c2] at H
  have c2b0 : decide (60 < (l0.length : Int)) = false := decide_eq_false c2
  have c2b1 : decide (60 < l0.length) = false := decide_eq_false (by omega)
  clear c2
  have H' := Aside0.mk H
  clear H
  go_enter Try.func3, Try.ntmps3
  go_wp2
  go_loopg [3, 4] k (fun kq v3 v4 w' => ∃ (x3_1 : List (S25)) (x4_1 : Int), v4 = .int .i64 x4_1 ∧ Aside0 (berthinglaw01_TickJoins_F.l0 kq l0 x3_1 x4_1 = some r) ∧ Aside0 (kq ≤ k) ∧ Aside0 (Kd.R k25 25 w' w.heap.size (fun _ => True) v3 x3_1) ∧ Aside0 (Below w.heap.size w w'))
  case atStart => exact ⟨(([] : List (S25))), (0), (by first | rfl | (simp; done) | (simp [*]; done)), H', ⟨Nat.le_refl _⟩, ⟨by first | exact Kd.R_nil _ _ _ _ _ | exact Kd.N_nil _ _ _ _ _ | exact Kd.V_nil _ _ _ _ _ | exact Kd.Q_nil _ _ _ _ _ | exact Kd.S_nil _ _ _ _ _⟩, ⟨by repeat (first | (with_reducible first | exact HB.out | apply below_alloc | apply pw_below_drewN | apply below_drew1) | exact HB.out)⟩⟩
  case round =>
   clear H'
   try clear c2
   try clear c2b0
   try clear c2b1
   try clear p2
   obtain ⟨x3_1, x4_1, rfl, HA, HK1, HO_3, HB⟩ := hrel
   cases gk with
   | zero => exact absurd HA.out (by simp [berthinglaw01_TickJoins_F.l0])
   | succ k1 =>
    have H := HA.out
    clear HA
    simp only [berthinglaw01_TickJoins_F.l0] at H
    by_cases c3 : x4_1 < (l0.length : Int)
    ·rw [if_pos c3] at H
     have c3b0 : decide (x4_1 < (l0.length : Int)) = true := decide_eq_true c3
     clear c3
     by_cases c4 : 0 ≤ x4_1
     ·rw [if_pos c4] at H
      have c4b0 : decide (0 ≤ x4_1) = true := decide_eq_true c4
      clear c4
      replace H := Option.bind_eq_some_iff.mp H
      obtain ⟨⟨t192, t193⟩, A50, H⟩ := H
      replace H : (if x3_1.length < 8796093022208 then (berthinglaw01_TickJoins_F.l0 k1 l0 (x3_1 ++ [(⟨t192, t193⟩ : S25)]) (wrap64 (x4_1 + 1))) else (none)) = some r := H
      have A5 := Aside0.mk A50
      clear A50
      by_cases c6 : x3_1.length < 8796093022208
      ·rw [if_pos c6] at H
       have LMc6 := Aside0.mk c6
       clear c6
       obtain ⟨y194, hy194⟩ : ∃ y_ : List (S25), y_ = (x3_1 ++ [(⟨t192, t193⟩ : S25)]) := ⟨_, rfl⟩
       replace H : (berthinglaw01_TickJoins_F.l0 k1 l0 y194 (wrap64 (x4_1 + 1))) = some r := by first | (rw [hy194]; with_reducible exact H) | (have H2_ := (Option.bind_some _ _).symm.trans H; rw [hy194]; with_reducible exact H2_) | (have H2_ := (Option.bind_some _ _).symm.trans H; with_reducible exact H2_) | with_reducible exact H | (rw [hy194]; exact H) | exact H
       have Ny194 := Aside0.mk hy194
       clear hy194
       have H' := Aside0.mk H
       clear H
       have p191 : 0 ≤ (x4_1 : Int) := of_decide_eq_true (by first | (with_reducible assumption) | assumption)
       have q191 : x4_1 < (l0.length : Int) := of_decide_eq_true (by first | (with_reducible assumption) | assumption)
       obtain ⟨ad191, e191, hx191_0, hx191_1⟩ := at_T29 HR0.out x4_1 p191 q191
       cases e191
       replace hx191_0 := (HB.out.cell (World.block_lt_of_cell? w _ hx191_0)).trans hx191_0
       replace hx191_1 := (HB.out.cell (World.block_lt_of_cell? w _ hx191_1)).trans hx191_1
       replace p191 := eq_true p191
       replace q191 := eq_true q191
       go_wp2_with (first | ((with_reducible refine gate_callee (f := 9) rfl ?_); refine goesL_ (some 24) rfl rfl Try.func9 (by kernel_rfl) rfl #[.agg #[.int .i64 ((rd_T29 l0 x4_1).f0), .int .i64 ((rd_T29 l0 x4_1).f1)]] rfl (by (try simp only [List.map_toArray, List.map_cons, List.map_nil]); first | done | rfl | (simp only [List.length_drop, List.length_take]; rfl)) ?_; (with_reducible refine (berthinglaw01_Own.calls ((rd_T29 l0 x4_1).f0) ((rd_T29 l0 x4_1).f1) t192 t193 _ A5.out).mono ?_); rintro e w7 ⟨rfl, hb⟩; refine ⟨_, rfl, ?_⟩; have n0_ := Aside0.mk (Kd.R_below (by (with_reducible repeat (first | apply Kd.R_alloc | apply Kd.R_drewN | apply Kd.R_drew)); exact HO_3.out) hb); have n1_ := Aside0.mk (below_step (by repeat (first | (with_reducible first | exact HB.out | apply below_alloc | apply pw_below_drewN | apply below_drew1) | exact HB.out)) hb); clear HO_3; clear HB; have HO_3 := n0_; have HB := n1_; clear n0_ n1_; (try clear hb); (try clear hb2); (try clear hk); (try clear hi)) | ((with_reducible refine gate_builtin (b := .append) (xs := #[.tmp 19, .tmp 25]) rfl ?_); at_builtin; refine Kd.R_append k25 (w0 := w) w.heap.size rfl (.tmp 19) (.tmp 25) 23 25 (.agg #[(.int .i64 0), (.int .i64 0)]) 16 rfl Try.underlying23 info25 rfl (by decide) (by omega) u3 x3_1 (⟨t192, t193⟩ : S25) [.int .i64 t192, .int .i64 t193] (fun _ => True) (fun _ => False) rfl rfl ?aP (fun _ hk => hk.elim) ?aF ?aO ?aB ?aS ?aL ?_; (case aP => exact k25_mkM _ _ _ (⟨t192, t193⟩ : S25)); (case aB => exact (by repeat (first | (with_reducible first | exact HB.out | apply below_alloc | apply pw_below_drewN | apply below_drew1) | exact HB.out))); (case aF => exact (fun _ _ => trivial)); (case aO => exact (by (with_reducible repeat (first | apply Kd.R_alloc | apply Kd.R_drewN | apply Kd.R_drew)); exact HO_3.out)); (case aS => exact (below_size (by repeat (first | (with_reducible first | exact HB.out | apply below_alloc | apply pw_below_drewN | apply below_drew1) | exact HB.out)))); (case aL => have := LMc6.out; omega); intro v195 w8 ho hb hg hat; rw [← Ny194.out] at ho; have n0_ := Aside0.mk (hb); have n1_ := Aside0.mk (ho); clear HB; clear HO_3; have HB := n0_; have HO196 := n1_; clear n0_ n1_; clear ho hb hg hat))
       go_roundg k1
       case measure => have := HK1.out; omega
       case rel => exact ⟨(y194), (wrap64 (x4_1 + 1)), (by first | rfl | (simp; done) | (simp [*]; done)), H', ⟨by have := HK1.out; omega⟩, ⟨by (with_reducible repeat (first | apply Kd.R_alloc | apply Kd.R_drewN | apply Kd.R_drew)); exact HO196.out⟩, ⟨by repeat (first | (with_reducible first | exact HB.out | apply below_alloc | apply pw_below_drewN | apply below_drew1) | exact HB.out)⟩⟩
      ·rw [if_neg c6] at H
       exact absurd H (by simp)
     ·rw [if_neg c4] at H
      exact absurd H (by simp)
    ·rw [if_neg c3] at H
     have c3b0 : decide (x4_1 < (l0.length : Int)) = false := decide_eq_false c3
     clear c3
     replace H := Option.bind_eq_some_iff.mp H
     obtain ⟨t197, A90, H⟩ := H
     replace H : ((berthingref01_Join.f k1 x3_1).bind fun t200 => (if (t197.length : Int) = (t200.length : Int) then (berthinglaw01_TickJoins_F.l1 k1 t197 t200 0) else (none))) = some r := H
     have A9 := Aside0.mk A90
     clear A90
     replace H := Option.bind_eq_some_iff.mp H
     obtain ⟨t200, A100, H⟩ := H
     replace H : (if (t197.length : Int) = (t200.length : Int) then (berthinglaw01_TickJoins_F.l1 k1 t197 t200 0) else (none)) = some r := H
     have A10 := Aside0.mk A100
     clear A100
     by_cases c11 : (t197.length : Int) = (t200.length : Int)
     ·rw [if_pos c11] at H
      have c11b0 : ((t197.length : Int) == (t200.length : Int)) = true := beq_iff_eq.mpr c11
      have c11b1 : ((t197.length : Int) != (t200.length : Int)) = false := bne_eq_false_iff_eq.mpr c11
      have c11b2 : (t197.length == t200.length) = true := by first | simpa using c11 | (simp at c11 ⊢; omega)
      clear c11
      have H' := Aside0.mk H
      clear H
      go_wp2_with (first | ((with_reducible refine gate_callee (f := 10) rfl ?_); refine goesL_ (some 28) rfl rfl Try.func10 (by kernel_rfl) rfl #[.slice A0 l0.length c0] rfl (by (try simp only [List.map_toArray, List.map_cons, List.map_nil]); first | done | rfl | (simp only [List.length_drop, List.length_take]; rfl)) ?_; (with_reducible refine (tick_Join.calls k1 _ _ l0 t197 _ ?side1 ?side2 A9.out).mono ?_); (case side1 => repeat (first | exact (Kd.C_below HR0.out HB.out) | (with_reducible refine Kd.C_alloc ?_ _) | (with_reducible refine Kd.C_drewN ?_ _) | (with_reducible refine Kd.C_drew ?_))); (case side2 => exact HC0.out); rintro e w12 ⟨v198, rfl, ho0, hb⟩; refine ⟨_, rfl, ?_⟩; have n0_ := Aside0.mk (Kd.R_below (by (with_reducible repeat (first | apply Kd.R_alloc | apply Kd.R_drewN | apply Kd.R_drew)); exact HO_3.out) hb); have n1_ := Aside0.mk (Kd.R_lower ho0 (below_size (by repeat (first | (with_reducible first | exact HB.out | apply below_alloc | apply pw_below_drewN | apply below_drew1) | exact HB.out)))); have n2_ := Aside0.mk (below_step (by repeat (first | (with_reducible first | exact HB.out | apply below_alloc | apply pw_below_drewN | apply below_drew1) | exact HB.out)) hb); clear HO_3; clear HB; have HO_3 := n0_; have HO199 := n1_; have HB := n2_; clear n0_ n1_ n2_; (try clear hb); (try clear hb2); (try clear hk); (try clear hi); (try clear ho0); obtain ⟨Ao13, co13, eo13⟩ := Kd.R_slice HO_3.out; subst eo13) | ((with_reducible refine gate_callee (f := 11) rfl ?_); refine goesL_ (some 30) rfl rfl Try.func11 (by kernel_rfl) rfl #[.slice Ao13 x3_1.length co13] rfl (by (try simp only [List.map_toArray, List.map_cons, List.map_nil]); first | done | rfl | (simp only [List.length_drop, List.length_take]; rfl)) ?_; (with_reducible refine (berthingref01_Join.calls k1 _ _ x3_1 t200 _ ?side1 ?side2 A10.out).mono ?_); (case side1 => repeat (first | exact (Kd.R_reads' HO_3.out).2.2 | (with_reducible refine Kd.C_alloc ?_ _) | (with_reducible refine Kd.C_drewN ?_ _) | (with_reducible refine Kd.C_drew ?_))); (case side2 => exact (Kd.R_reads' HO_3.out).2.1); rintro e w14 ⟨v201, rfl, ho0, hb⟩; refine ⟨_, rfl, ?_⟩; have n0_ := Aside0.mk (Kd.R_elder' (by (with_reducible repeat (first | apply Kd.R_alloc | apply Kd.R_drewN | apply Kd.R_drew)); exact HO_3.out) (Kd.R_base ho0) hb); have n1_ := Aside0.mk (Kd.R_below (by (with_reducible repeat (first | apply Kd.R_alloc | apply Kd.R_drewN | apply Kd.R_drew)); exact HO199.out) hb); have n2_ := Aside0.mk (Kd.R_lower (Kd.R_new' ho0 (Kd.R_lt (by (with_reducible repeat (first | apply Kd.R_alloc | apply Kd.R_drewN | apply Kd.R_drew)); exact HO_3.out))) (below_size (by repeat (first | (with_reducible first | exact HB.out | apply below_alloc | apply pw_below_drewN | apply below_drew1) | exact HB.out)))); have n3_ := Aside0.mk (below_step (by repeat (first | (with_reducible first | exact HB.out | apply below_alloc | apply pw_below_drewN | apply below_drew1) | exact HB.out)) hb); clear HO_3; clear HO199; clear HB; have HO_3 := n0_; have HO199 := n1_; have HO202 := n2_; have HB := n3_; clear n0_ n1_ n2_ n3_; (try clear hb); (try clear hb2); (try clear hk); (try clear hi); (try clear ho0); obtain ⟨Ao15, co15, eo15⟩ := Kd.R_slice HO199.out; subst eo15; obtain ⟨Ao16, co16, eo16⟩ := Kd.R_slice HO202.out; subst eo16))
      go_loopg [7] k1 (fun kq v7 w' => ∃ (x7_2 : Int), v7 = .int .i64 x7_2 ∧ Aside0 (berthinglaw01_TickJoins_F.l1 kq t197 t200 x7_2 = some r) ∧ Aside0 (kq ≤ k1) ∧ Aside0 (Kd.R k29 29 w' w.heap.size (fun _ => True) (.slice Ao15 t197.length co15) t197) ∧ Aside0 (Kd.R k25 25 w' w.heap.size (fun _ => True) (.slice Ao16 t200.length co16) t200) ∧ Aside0 (Below w.heap.size w w'))
      case atStart => exact ⟨(0), (by first | rfl | (simp; done) | (simp [*]; done)), H', ⟨Nat.le_refl _⟩, ⟨by (with_reducible repeat (first | apply Kd.R_alloc | apply Kd.R_drewN | apply Kd.R_drew)); exact HO199.out⟩, ⟨by (with_reducible repeat (first | apply Kd.R_alloc | apply Kd.R_drewN | apply Kd.R_drew)); exact Kd.R_mono HO202.out (fun _ hk => trivial)⟩, ⟨by repeat (first | (with_reducible first | exact HB.out | apply below_alloc | apply pw_below_drewN | apply below_drew1) | exact HB.out)⟩⟩
      case round =>
       clear H'
       try clear c1
       try clear p1
       try clear q1
       try clear hx1
       try clear c2
       try clear c2b0
       try clear c2b1
       try clear p2
       try clear c3
       try clear c3b0
       try clear c4
       try clear c4b0
       try clear c6
       try clear p6
       try clear c9
       try clear c10
       try clear c11
       try clear c11b0
       try clear c11b1
       try clear c11b2
       try clear hx191_0
       try clear hx191_1
       try clear p191
       try clear p2
       try clear q191
       obtain ⟨x7_2, rfl, HA, HK2, HO_5, HO_6, HB⟩ := hrel
       cases gk with
       | zero => exact absurd HA.out (by simp [berthinglaw01_TickJoins_F.l1])
       | succ k2 =>
        have H := HA.out
        clear HA
        simp only [berthinglaw01_TickJoins_F.l1] at H
        by_cases c17 : x7_2 < (t197.length : Int)
        ·rw [if_pos c17] at H
         have c17b0 : decide (x7_2 < (t197.length : Int)) = true := decide_eq_true c17
         clear c17
         by_cases c18 : 0 ≤ x7_2
         ·rw [if_pos c18] at H
          have c18b0 : decide (0 ≤ x7_2) = true := decide_eq_true c18
          clear c18
          replace H := Option.bind_eq_some_iff.mp H
          obtain ⟨⟨t204, t205⟩, A190, H⟩ := H
          replace H : (if x7_2 < (t200.length : Int) then (if (!(t204 == ((rd_T25 t200 x7_2).f0)) || (!(t205 == ((rd_T25 t200 x7_2).f1)))) = true then (none) else (berthinglaw01_TickJoins_F.l1 k2 t197 t200 (wrap64 (x7_2 + 1)))) else (none)) = some r := H
          have A19 := Aside0.mk A190
          clear A190
          by_cases c20 : x7_2 < (t200.length : Int)
          ·rw [if_pos c20] at H
           have c20b0 : decide (x7_2 < (t200.length : Int)) = true := decide_eq_true c20
           clear c20
           by_cases c21 : (!(t204 == ((rd_T25 t200 x7_2).f0)) || (!(t205 == ((rd_T25 t200 x7_2).f1)))) = true
           ·rw [if_pos c21] at H
            exact absurd H (by simp)
           ·rw [if_neg c21] at H
            have c21b0 : (!(t204 == ((rd_T25 t200 x7_2).f0)) || (!(t205 == ((rd_T25 t200 x7_2).f1)))) = false := by simpa using c21
            clear c21
            have H' := Aside0.mk H
            clear H
            try go_wp2
            have n0_ := Aside0.mk (Kd.R_drew HO_5.out)
            have n1_ := Aside0.mk (Kd.R_drew HO_6.out)
            have n2_ := Aside0.mk (below_drew1 HB.out)
            clear HO_5
            clear HO_6
            clear HB
            have HO_5 := n0_
            have HO_6 := n1_
            have HB := n2_
            clear n0_ n1_ n2_
            have p203 : 0 ≤ (x7_2 : Int) := of_decide_eq_true (by first | (with_reducible assumption) | assumption)
            have q203 : x7_2 < (t197.length : Int) := of_decide_eq_true (by first | (with_reducible assumption) | assumption)
            obtain ⟨ad203, e203, hx203_0, hx203_1⟩ := at_T29 (Kd.R_reads' HO_5.out).2.2 x7_2 p203 q203
            cases e203
            replace p203 := eq_true p203
            replace q203 := eq_true q203
            have p206 : 0 ≤ (x7_2 : Int) := of_decide_eq_true (by first | (with_reducible assumption) | assumption)
            have q206 : x7_2 < (t200.length : Int) := of_decide_eq_true (by first | (with_reducible assumption) | assumption)
            obtain ⟨ad206, e206, hx206_0, hx206_1⟩ := at_T25 (Kd.R_reads' HO_6.out).2.2 x7_2 p206 q206
            cases e206
            replace p206 := eq_true p206
            replace q206 := eq_true q206
            refine start_ (n := 10) (S := fun w' => w'.cell? (ad203.add ((x7_2).toNat * 2)) = some (.int .i64 ((rd_T29 t197 x7_2).f0)) ∧ w'.cell? ⟨(ad203.add ((x7_2).toNat * 2)).block, (ad203.add ((x7_2).toNat * 2)).off + 1, none⟩ = some (.int .i64 ((rd_T29 t197 x7_2).f1)) ∧ w'.cell? (ad206.add ((x7_2).toNat * 2)) = some (.int .i64 ((rd_T25 t200 x7_2).f0)) ∧ w'.cell? ⟨(ad206.add ((x7_2).toNat * 2)).block, (ad206.add ((x7_2).toNat * 2)).off + 1, none⟩ = some (.int .i64 ((rd_T25 t200 x7_2).f1))) (ds := []) #[false, false, false, false, false, false, false, false, false, false] (by kernel_rfl) rfl rfl ⟨hx203_0, hx203_1, hx206_0, hx206_1⟩ (fun hHeld => ?_); refine with_tabW berthinglaw01_TickJoins_F.tab14 berthinglaw01_TickJoins_F.bits14 (fun HT_ HW_ => ?_)
            generalize wr.drew = w22 at HO_5 HO_6 HB hx203_0 hx203_1 hx206_0 hx206_1 hHeld ⊢
            refine pure_ (i := 0) (N := some 42) (v := ?_) (a' := ?_) #[true, false, false, false, false, false, false, false, false, false] rfl rfl (any_of HT_.out (by kernel_rfl)) (fun _ _ _ h => h) (Or.inl ⟨by rfl, ?_⟩) ?_ ?_
            rotate_left
            ·intro w'
             go_simp
             with_reducible rfl
            rotate_left
            ·simp only [Act.put, List.setIfInBounds_toArray, List.set_cons_zero, List.set_cons_succ, i64_w, i32_w]
             rfl
            refine pure_ (i := 1) (N := some 43) (v := ?_) (a' := ?_) #[true, true, false, false, false, false, false, false, false, false] rfl rfl (any_of HT_.out (by kernel_rfl)) (fun _ _ _ h => h) (Or.inl ⟨by rfl, ?_⟩) ?_ ?_
            rotate_left
            ·intro w'
             go_simp
             with_reducible rfl
            rotate_left
            ·simp only [Act.put, List.setIfInBounds_toArray, List.set_cons_zero, List.set_cons_succ, i64_w, i32_w]
             rfl
            refine pure_ (i := 2) (N := some 44) (v := ?_) (a' := ?_) #[true, true, true, false, false, false, false, false, false, false] rfl rfl (any_of HT_.out (by kernel_rfl)) (fun _ _ _ h => h) (Or.inl ⟨by rfl, ?_⟩) ?_ ?_
            rotate_left
            ·intro w'
             go_simp
             with_reducible rfl
            rotate_left
            ·simp only [Act.put, List.setIfInBounds_toArray, List.set_cons_zero, List.set_cons_succ, i64_w, i32_w]
             rfl
            refine pure_ (i := 5) (N := some 47) (v := ?_) (a' := ?_) #[true, true, true, false, false, true, false, false, false, false] rfl rfl (any_of HT_.out (by kernel_rfl)) (fun _ _ _ h => h) (Or.inl ⟨by rfl, ?_⟩) ?_ ?_
            rotate_left
            ·intro w'
             go_simp
             with_reducible rfl
            rotate_left
            ·simp only [Act.put, List.setIfInBounds_toArray, List.set_cons_zero, List.set_cons_succ, i64_w, i32_w]
             rfl
            refine pure_ (i := 6) (N := some 48) (v := ?_) (a' := ?_) #[true, true, true, false, false, true, true, false, false, false] rfl rfl (any_of HT_.out (by kernel_rfl)) (fun _ _ _ h => h) (Or.inl ⟨by rfl, ?_⟩) ?_ ?_
            rotate_left
            ·intro w'
             go_simp
             with_reducible rfl
            rotate_left
            ·simp only [Act.put, List.setIfInBounds_toArray, List.set_cons_zero, List.set_cons_succ, i64_w, i32_w]
             rfl
            refine pure_ (i := 7) (N := some 49) (v := ?_) (a' := ?_) #[true, true, true, false, false, true, true, true, false, false] rfl rfl (any_of HT_.out (by kernel_rfl)) (fun _ _ _ h => h) (Or.inl ⟨by rfl, ?_⟩) ?_ ?_
            rotate_left
            ·intro w'
             go_simp
             with_reducible rfl
            rotate_left
            ·simp only [Act.put, List.setIfInBounds_toArray, List.set_cons_zero, List.set_cons_succ, i64_w, i32_w]
             rfl
            refine take_ (i := 3) (N := some 45) (v := ?_) (a' := ?_) #[true, true, true, true, false, true, true, true, false, false] rfl rfl (take_ofW HT_.out HW_.out (by kernel_rfl)) (fun _ _ _ h => h) (Or.inl ⟨by rfl, ?_⟩) hHeld ?_ ?_
            rotate_left
            ·rintro w' ⟨s0, s1, s2, s3⟩
             go_simp
             with_reducible rfl
            rotate_left
            ·simp only [Act.put, List.setIfInBounds_toArray, List.set_cons_zero, List.set_cons_succ, i64_w, i32_w]
             rfl
            refine take_ (i := 8) (N := some 50) (v := ?_) (a' := ?_) #[true, true, true, true, false, true, true, true, true, false] rfl rfl (take_ofW HT_.out HW_.out (by kernel_rfl)) (fun _ _ _ h => h) (Or.inl ⟨by rfl, ?_⟩) hHeld ?_ ?_
            rotate_left
            ·rintro w' ⟨s0, s1, s2, s3⟩
             go_simp
             with_reducible rfl
            rotate_left
            ·simp only [Act.put, List.setIfInBounds_toArray, List.set_cons_zero, List.set_cons_succ, i64_w, i32_w]
             rfl
            refine one_ (i := 4) (N := some 46) #[true, true, true, true, true, true, true, true, true, false] rfl rfl (one_of HT_.out (by kernel_rfl)) (by decide) (fun K hK => ?_)
            refine goes_ Try.func9 (by kernel_rfl) rfl #[.agg #[.int .i64 ((rd_T29 t197 x7_2).f0), .int .i64 ((rd_T29 t197 x7_2).f1)]] (by rfl) rfl rfl (by (try simp only [List.map_toArray, List.map_cons, List.map_nil]); first | done | rfl | (simp only [List.length_drop, List.length_take]; rfl)) ?_
            with_reducible refine (berthinglaw01_Own.calls ((rd_T29 t197 x7_2).f0) ((rd_T29 t197 x7_2).f1) t204 t205 _ A19.out).mono ?_
            rintro e w23 ⟨rfl, hb⟩
            have HS0_ := (hb.cell (World.block_lt_of_cell? _ _ (hHeld.1))).trans (hHeld.1)
            have HS1_ := (hb.cell (World.block_lt_of_cell? _ _ (hHeld.2.1))).trans (hHeld.2.1)
            have HS2_ := (hb.cell (World.block_lt_of_cell? _ _ (hHeld.2.2.1))).trans (hHeld.2.2.1)
            have HS3_ := (hb.cell (World.block_lt_of_cell? _ _ (hHeld.2.2.2))).trans (hHeld.2.2.2)
            refine ⟨_, rfl, ?_⟩
            have n0_ := Aside0.mk (Kd.R_below (by (with_reducible repeat (first | apply Kd.R_alloc | apply Kd.R_drewN | apply Kd.R_drew)); exact HO_5.out) hb)
            have n1_ := Aside0.mk (Kd.R_below (by (with_reducible repeat (first | apply Kd.R_alloc | apply Kd.R_drewN | apply Kd.R_drew)); exact HO_6.out) hb)
            have n2_ := Aside0.mk (below_step (by repeat (first | (with_reducible first | exact HB.out | apply below_alloc | apply pw_below_drewN | apply below_drew1) | exact HB.out)) hb)
            clear HO_5
            clear HO_6
            clear HB
            have HO_5 := n0_
            have HO_6 := n1_
            have HB := n2_
            clear n0_ n1_ n2_
            (try clear hb)
            (try clear hb2)
            (try clear hk)
            (try clear hi)
            refine hK.out _ _ ⟨HS0_, HS1_, HS2_, HS3_⟩ (fun hHeld => ?_)
            clear hK K
            refine norm_ (a' := ?_) ?_ ?_
            rotate_left
            ·show Act.put _ (some 46) _ = _
             simp only [Act.put, List.setIfInBounds_toArray, List.set_cons_zero, List.set_cons_succ, i64_w, i32_w]
             rfl
            refine pure_ (i := 9) (N := some 51) (v := ?_) (a' := ?_) #[true, true, true, true, true, true, true, true, true, true] rfl rfl (any_of HT_.out (by kernel_rfl)) (fun _ _ _ h => h) (Or.inl ⟨by rfl, ?_⟩) ?_ ?_
            rotate_left
            ·intro w'
             go_simp
             with_reducible rfl
            rotate_left
            ·simp only [Act.put, List.setIfInBounds_toArray, List.set_cons_zero, List.set_cons_succ, i64_w, i32_w]
             rfl
            refine done_ (done_of HT_.out (by kernel_rfl)) ?_
            try go_wp2
            go_roundg k2
            case measure => have := HK1.out; have := HK2.out; omega
            case rel => exact ⟨(wrap64 (x7_2 + 1)), (by first | rfl | (simp; done) | (simp [*]; done)), H', ⟨by have := HK1.out; have := HK2.out; omega⟩, ⟨by (with_reducible repeat (first | apply Kd.R_alloc | apply Kd.R_drewN | apply Kd.R_drew)); exact HO_5.out⟩, ⟨by (with_reducible repeat (first | apply Kd.R_alloc | apply Kd.R_drewN | apply Kd.R_drew)); exact HO_6.out⟩, ⟨by repeat (first | (with_reducible first | exact HB.out | apply below_alloc | apply pw_below_drewN | apply below_drew1) | exact HB.out)⟩⟩
          ·rw [if_neg c20] at H
           exact absurd H (by simp)
         ·rw [if_neg c18] at H
          exact absurd H (by simp)
        ·rw [if_neg c17] at H
         have c17b0 : decide (x7_2 < (t197.length : Int)) = false := decide_eq_false c17
         clear c17
         replace H := Option.bind_eq_some_iff.mp H
         obtain ⟨t207, A240, H⟩ := H
         replace H : (some t207) = some r := H
         have A24 := Aside0.mk A240
         clear A240
         obtain rfl := Option.some.inj H
         go_wp2_with (first | ((with_reducible refine gate_callee (f := 12) rfl ?_); refine goesL_ (some 52) rfl rfl Try.func12 (by kernel_rfl) rfl #[] rfl (by (try simp only [List.map_toArray, List.map_cons, List.map_nil]); first | done | rfl | (simp only [List.length_drop, List.length_take]; rfl)) ?_; (with_reducible refine (berthinglaw01_one.calls k2  t207 _ A24.out).mono ?_); rintro e w25 ⟨rfl, hb⟩; refine ⟨_, rfl, ?_⟩; have n0_ := Aside0.mk (Kd.R_below (by (with_reducible repeat (first | apply Kd.R_alloc | apply Kd.R_drewN | apply Kd.R_drew)); exact HO_5.out) hb); have n1_ := Aside0.mk (Kd.R_below (by (with_reducible repeat (first | apply Kd.R_alloc | apply Kd.R_drewN | apply Kd.R_drew)); exact HO_6.out) hb); have n2_ := Aside0.mk (below_step (by repeat (first | (with_reducible first | exact HB.out | apply below_alloc | apply pw_below_drewN | apply below_drew1) | exact HB.out)) hb); clear HO_5; clear HO_6; clear HB; have HO_5 := n0_; have HO_6 := n1_; have HB := n2_; clear n0_ n1_ n2_; (try clear hb); (try clear hb2); (try clear hk); (try clear hi)))
         go_ret
         exact ⟨by first | rfl | (simp [errW_none, errW_some] <;> rfl) | (simp [*, errW_none, errW_some] <;> rfl), by repeat (first | (with_reducible first | exact HB.out | apply below_alloc | apply pw_below_drewN | apply below_drew1) | exact HB.out)⟩
     ·rw [if_neg c11] at H
      exact absurd H (by simp)

/-! ### tick_Times: function 16 -/
def tick_Times.f (a0 : Int) (a1 : Int) : Option (Int) := (tick_Clamp.f a0).bind fun t208 => (if a1 < 1 then (some 0) else (if t208 = 0 then (some 0) else (if a1 > (wrap64 ((1099511627776 : Int) / t208)) then (some 1099511627776) else (some (wrap64 (t208 * a1))))))
set_option maxHeartbeats 8000000 in
set_option maxRecDepth 100000 in
theorem tick_Times.calls (a0 : Int) (a1 : Int) (r : Int) (w : World) (h : tick_Times.f a0 a1 = some r) :
  Calls Try.prog 16 #[.int .i64 a0, .int .i64 a1] w fun e w' => e = .returned (.int .i64 r) ∧ Below w.heap.size w w' := by
 have HB := Aside0.mk (Below.refl w.heap.size w)
 have H : ((tick_Clamp.f a0).bind fun t208 => (if a1 < 1 then (some 0) else (if t208 = 0 then (some 0) else (if a1 > (wrap64 ((1099511627776 : Int) / t208)) then (some 1099511627776) else (some (wrap64 (t208 * a1))))))) = some r := h
 clear h
 replace H := Option.bind_eq_some_iff.mp H
 obtain ⟨t208, A30, H⟩ := H
 replace H : (if a1 < 1 then (some 0) else (if t208 = 0 then (some 0) else (if a1 > (wrap64 ((1099511627776 : Int) / t208)) then (some 1099511627776) else (some (wrap64 (t208 * a1)))))) = some r := H
 have A3 := Aside0.mk A30
 clear A30
 by_cases c4 : a1 < 1
 ·rw [if_pos c4] at H
  have c4b0 : decide (a1 < 1) = true := decide_eq_true c4
  clear c4
  obtain rfl := Option.some.inj H
  go_enter Try.func16, Try.ntmps16
  go_wp2_with (first | ((with_reducible refine gate_callee (f := 14) rfl ?_); refine goesL_ (some 6) rfl rfl Try.func14 (by kernel_rfl) rfl #[.int .i64 a0] rfl (by (try simp only [List.map_toArray, List.map_cons, List.map_nil]); first | done | rfl | (simp only [List.length_drop, List.length_take]; rfl)) ?_; (with_reducible refine (tick_Clamp.calls a0 t208 _ A3.out).mono ?_); rintro e w5 ⟨rfl, hb⟩; refine ⟨_, rfl, ?_⟩; have n0_ := Aside0.mk (below_step (by repeat (first | (with_reducible first | exact HB.out | apply below_alloc | apply pw_below_drewN | apply below_drew1) | exact HB.out)) hb); clear HB; have HB := n0_; clear n0_; (try clear hb); (try clear hb2); (try clear hk); (try clear hi)))
  go_ret
  exact ⟨by first | rfl | (simp [errW_none, errW_some] <;> rfl) | (simp [*, errW_none, errW_some] <;> rfl), by repeat (first | (with_reducible first | exact HB.out | apply below_alloc | apply pw_below_drewN | apply below_drew1) | exact HB.out)⟩
 ·rw [if_neg c4] at H
  have c4b0 : decide (a1 < 1) = false := decide_eq_false c4
  clear c4
  by_cases c6 : t208 = 0
  ·rw [if_pos c6] at H
   have c6b0 : (t208 == 0) = true := beq_iff_eq.mpr c6
   have c6b1 : (t208 != 0) = false := bne_eq_false_iff_eq.mpr c6
   clear c6
   obtain rfl := Option.some.inj H
   go_enter Try.func16, Try.ntmps16
   go_wp2_with (first | ((with_reducible refine gate_callee (f := 14) rfl ?_); refine goesL_ (some 6) rfl rfl Try.func14 (by kernel_rfl) rfl #[.int .i64 a0] rfl (by (try simp only [List.map_toArray, List.map_cons, List.map_nil]); first | done | rfl | (simp only [List.length_drop, List.length_take]; rfl)) ?_; (with_reducible refine (tick_Clamp.calls a0 t208 _ A3.out).mono ?_); rintro e w7 ⟨rfl, hb⟩; refine ⟨_, rfl, ?_⟩; have n0_ := Aside0.mk (below_step (by repeat (first | (with_reducible first | exact HB.out | apply below_alloc | apply pw_below_drewN | apply below_drew1) | exact HB.out)) hb); clear HB; have HB := n0_; clear n0_; (try clear hb); (try clear hb2); (try clear hk); (try clear hi)))
   go_ret
   exact ⟨by first | rfl | (simp [errW_none, errW_some] <;> rfl) | (simp [*, errW_none, errW_some] <;> rfl), by repeat (first | (with_reducible first | exact HB.out | apply below_alloc | apply pw_below_drewN | apply below_drew1) | exact HB.out)⟩
  ·rw [if_neg c6] at H
   have c6b0 : (t208 == 0) = false := beq_eq_false_iff_ne.mpr c6
   have c6b1 : (t208 != 0) = true := bne_iff_ne.mpr c6
   have htd : Int.tdiv 1099511627776 t208 = (1099511627776 : Int) / t208 := Int.tdiv_eq_ediv_of_nonneg (by decide)
   by_cases c8 : a1 > (wrap64 ((1099511627776 : Int) / t208))
   ·rw [if_pos c8] at H
    have c8b0 : decide ((wrap64 ((1099511627776 : Int) / t208)) < a1) = true := decide_eq_true c8
    clear c8
    obtain rfl := Option.some.inj H
    go_enter Try.func16, Try.ntmps16
    go_wp2_with (first | ((with_reducible refine gate_callee (f := 14) rfl ?_); refine goesL_ (some 6) rfl rfl Try.func14 (by kernel_rfl) rfl #[.int .i64 a0] rfl (by (try simp only [List.map_toArray, List.map_cons, List.map_nil]); first | done | rfl | (simp only [List.length_drop, List.length_take]; rfl)) ?_; (with_reducible refine (tick_Clamp.calls a0 t208 _ A3.out).mono ?_); rintro e w9 ⟨rfl, hb⟩; refine ⟨_, rfl, ?_⟩; have n0_ := Aside0.mk (below_step (by repeat (first | (with_reducible first | exact HB.out | apply below_alloc | apply pw_below_drewN | apply below_drew1) | exact HB.out)) hb); clear HB; have HB := n0_; clear n0_; (try clear hb); (try clear hb2); (try clear hk); (try clear hi)))
    go_ret
    exact ⟨by first | rfl | (simp [errW_none, errW_some] <;> rfl) | (simp [*, errW_none, errW_some] <;> rfl), by repeat (first | (with_reducible first | exact HB.out | apply below_alloc | apply pw_below_drewN | apply below_drew1) | exact HB.out)⟩
   ·rw [if_neg c8] at H
    have c8b0 : decide ((wrap64 ((1099511627776 : Int) / t208)) < a1) = false := decide_eq_false c8
    clear c8
    obtain rfl := Option.some.inj H
    go_enter Try.func16, Try.ntmps16
    go_wp2_with (first | ((with_reducible refine gate_callee (f := 14) rfl ?_); refine goesL_ (some 6) rfl rfl Try.func14 (by kernel_rfl) rfl #[.int .i64 a0] rfl (by (try simp only [List.map_toArray, List.map_cons, List.map_nil]); first | done | rfl | (simp only [List.length_drop, List.length_take]; rfl)) ?_; (with_reducible refine (tick_Clamp.calls a0 t208 _ A3.out).mono ?_); rintro e w10 ⟨rfl, hb⟩; refine ⟨_, rfl, ?_⟩; have n0_ := Aside0.mk (below_step (by repeat (first | (with_reducible first | exact HB.out | apply below_alloc | apply pw_below_drewN | apply below_drew1) | exact HB.out)) hb); clear HB; have HB := n0_; clear n0_; (try clear hb); (try clear hb2); (try clear hk); (try clear hi)))
    go_ret
    exact ⟨by first | rfl | (simp [errW_none, errW_some] <;> rfl) | (simp [*, errW_none, errW_some] <;> rfl), by repeat (first | (with_reducible first | exact HB.out | apply below_alloc | apply pw_below_drewN | apply below_drew1) | exact HB.out)⟩

/-! ### berthinglaw01_TickOrders: function 4 -/
def berthinglaw01_TickOrders.f (k : Nat) (a0 : Int) (a1 : Int) (a2 : Int) : Option (Bool) := (tick_Add.f a0 a1).bind fun t209 => ((tick_Add.f a1 a0).bind fun t210 => (if t209 = t210 then ((tick_Add.f a0 a1).bind fun t209 => ((tick_Add.f t209 a2).bind fun t212 => ((tick_Add.f a1 a2).bind fun t213 => ((tick_Add.f a0 t213).bind fun t214 => (if t212 = t214 then ((tick_Add.f a0 a1).bind fun t209 => ((tick_Clamp.f a0).bind fun t216 => (if t209 < t216 then (none) else ((tick_Add.f a0 a1).bind fun t209 => (if t209 < 1099511627776 then ((tick_Sub.f t209 a1).bind fun t218 => ((tick_Clamp.f a0).bind fun t216 => (if t218 = t216 then ((tick_Sub.f a0 a0).bind fun t220 => (if t220 = 0 then ((tick_Times.f a0 1).bind fun t221 => ((tick_Clamp.f a0).bind fun t216 => (if t221 = t216 then ((tick_Times.f a0 2).bind fun t223 => ((tick_Add.f a0 a0).bind fun t224 => (if t223 = t224 then ((berthinglaw01_one.f k).bind fun t225 => (some t225)) else (none)))) else (none)))) else (none))) else (none)))) else ((tick_Sub.f a0 a0).bind fun t226 => (if t226 = 0 then ((tick_Times.f a0 1).bind fun t227 => ((tick_Clamp.f a0).bind fun t216 => (if t227 = t216 then ((tick_Times.f a0 2).bind fun t229 => ((tick_Add.f a0 a0).bind fun t230 => (if t229 = t230 then ((berthinglaw01_one.f k).bind fun t231 => (some t231)) else (none)))) else (none)))) else (none)))))))) else (none)))))) else (none)))
theorem berthinglaw01_TickOrders.mono : ∀ a0 a1 a2 k, LeO (berthinglaw01_TickOrders.f k a0 a1 a2) (berthinglaw01_TickOrders.f (k + 1) a0 a1 a2) := by
 intro a0 a1 a2 k
 unfold berthinglaw01_TickOrders.f
 repeat' first
   | (with_reducible exact berthinglaw01_one.mono _)
   | (with_reducible exact LeO.refl _)
   | (with_reducible exact LeO.none _)
   | (with_reducible refine LeO.ite ?_ ?_)
   | (with_reducible refine LeO.bind ?_ (fun _ => ?_))
   | exact berthinglaw01_one.mono _
   | exact LeO.none _
   | refine LeO.ite ?_ ?_
   | refine LeO.bind ?_ (fun _ => ?_)
set_option maxHeartbeats 8000000 in
set_option maxRecDepth 100000 in
theorem berthinglaw01_TickOrders.calls (k : Nat) (a0 : Int) (a1 : Int) (a2 : Int) (r : Bool) (w : World) (h : berthinglaw01_TickOrders.f k a0 a1 a2 = some r) :
  Calls Try.prog 4 #[.int .i64 a0, .int .i64 a1, .int .i64 a2] w fun e w' => e = .returned (.bool r) ∧ Below w.heap.size w w' := by
 have HB := Aside0.mk (Below.refl w.heap.size w)
 have H : ((tick_Add.f a0 a1).bind fun t209 => ((tick_Add.f a1 a0).bind fun t210 => (if t209 = t210 then ((tick_Add.f a0 a1).bind fun t209 => ((tick_Add.f t209 a2).bind fun t212 => ((tick_Add.f a1 a2).bind fun t213 => ((tick_Add.f a0 t213).bind fun t214 => (if t212 = t214 then ((tick_Add.f a0 a1).bind fun t209 => ((tick_Clamp.f a0).bind fun t216 => (if t209 < t216 then (none) else ((tick_Add.f a0 a1).bind fun t209 => (if t209 < 1099511627776 then ((tick_Sub.f t209 a1).bind fun t218 => ((tick_Clamp.f a0).bind fun t216 => (if t218 = t216 then ((tick_Sub.f a0 a0).bind fun t220 => (if t220 = 0 then ((tick_Times.f a0 1).bind fun t221 => ((tick_Clamp.f a0).bind fun t216 => (if t221 = t216 then ((tick_Times.f a0 2).bind fun t223 => ((tick_Add.f a0 a0).bind fun t224 => (if t223 = t224 then ((berthinglaw01_one.f k).bind fun t225 => (some t225)) else (none)))) else (none)))) else (none))) else (none)))) else ((tick_Sub.f a0 a0).bind fun t226 => (if t226 = 0 then ((tick_Times.f a0 1).bind fun t227 => ((tick_Clamp.f a0).bind fun t216 => (if t227 = t216 then ((tick_Times.f a0 2).bind fun t229 => ((tick_Add.f a0 a0).bind fun t230 => (if t229 = t230 then ((berthinglaw01_one.f k).bind fun t231 => (some t231)) else (none)))) else (none)))) else (none)))))))) else (none)))))) else (none)))) = some r := h
 clear h
 replace H := Option.bind_eq_some_iff.mp H
 obtain ⟨t209, A40, H⟩ := H
 replace H : ((tick_Add.f a1 a0).bind fun t210 => (if t209 = t210 then ((tick_Add.f a0 a1).bind fun t209 => ((tick_Add.f t209 a2).bind fun t212 => ((tick_Add.f a1 a2).bind fun t213 => ((tick_Add.f a0 t213).bind fun t214 => (if t212 = t214 then ((tick_Add.f a0 a1).bind fun t209 => ((tick_Clamp.f a0).bind fun t216 => (if t209 < t216 then (none) else ((tick_Add.f a0 a1).bind fun t209 => (if t209 < 1099511627776 then ((tick_Sub.f t209 a1).bind fun t218 => ((tick_Clamp.f a0).bind fun t216 => (if t218 = t216 then ((tick_Sub.f a0 a0).bind fun t220 => (if t220 = 0 then ((tick_Times.f a0 1).bind fun t221 => ((tick_Clamp.f a0).bind fun t216 => (if t221 = t216 then ((tick_Times.f a0 2).bind fun t223 => ((tick_Add.f a0 a0).bind fun t224 => (if t223 = t224 then ((berthinglaw01_one.f k).bind fun t225 => (some t225)) else (none)))) else (none)))) else (none))) else (none)))) else ((tick_Sub.f a0 a0).bind fun t226 => (if t226 = 0 then ((tick_Times.f a0 1).bind fun t227 => ((tick_Clamp.f a0).bind fun t216 => (if t227 = t216 then ((tick_Times.f a0 2).bind fun t229 => ((tick_Add.f a0 a0).bind fun t230 => (if t229 = t230 then ((berthinglaw01_one.f k).bind fun t231 => (some t231)) else (none)))) else (none)))) else (none)))))))) else (none)))))) else (none))) = some r := H
 have A4 := Aside0.mk A40
 clear A40
 replace H := Option.bind_eq_some_iff.mp H
 obtain ⟨t210, A50, H⟩ := H
 replace H : (if t209 = t210 then ((tick_Add.f a0 a1).bind fun t209 => ((tick_Add.f t209 a2).bind fun t212 => ((tick_Add.f a1 a2).bind fun t213 => ((tick_Add.f a0 t213).bind fun t214 => (if t212 = t214 then ((tick_Add.f a0 a1).bind fun t209 => ((tick_Clamp.f a0).bind fun t216 => (if t209 < t216 then (none) else ((tick_Add.f a0 a1).bind fun t209 => (if t209 < 1099511627776 then ((tick_Sub.f t209 a1).bind fun t218 => ((tick_Clamp.f a0).bind fun t216 => (if t218 = t216 then ((tick_Sub.f a0 a0).bind fun t220 => (if t220 = 0 then ((tick_Times.f a0 1).bind fun t221 => ((tick_Clamp.f a0).bind fun t216 => (if t221 = t216 then ((tick_Times.f a0 2).bind fun t223 => ((tick_Add.f a0 a0).bind fun t224 => (if t223 = t224 then ((berthinglaw01_one.f k).bind fun t225 => (some t225)) else (none)))) else (none)))) else (none))) else (none)))) else ((tick_Sub.f a0 a0).bind fun t226 => (if t226 = 0 then ((tick_Times.f a0 1).bind fun t227 => ((tick_Clamp.f a0).bind fun t216 => (if t227 = t216 then ((tick_Times.f a0 2).bind fun t229 => ((tick_Add.f a0 a0).bind fun t230 => (if t229 = t230 then ((berthinglaw01_one.f k).bind fun t231 => (some t231)) else (none)))) else (none)))) else (none)))))))) else (none)))))) else (none)) = some r := H
 have A5 := Aside0.mk A50
 clear A50
 by_cases c6 : t209 = t210
 ·rw [if_pos c6] at H
  have c6b0 : (t209 == t210) = true := beq_iff_eq.mpr c6
  have c6b1 : (t209 != t210) = false := bne_eq_false_iff_eq.mpr c6
  clear c6
  replace H := Option.bind_eq_some_iff.mp H
  obtain ⟨t209d, A70, H⟩ := H
  obtain rfl : t209 = t209d := Option.some.inj (A4.out.symm.trans A70)
  replace H : ((tick_Add.f t209 a2).bind fun t212 => ((tick_Add.f a1 a2).bind fun t213 => ((tick_Add.f a0 t213).bind fun t214 => (if t212 = t214 then ((tick_Add.f a0 a1).bind fun t209 => ((tick_Clamp.f a0).bind fun t216 => (if t209 < t216 then (none) else ((tick_Add.f a0 a1).bind fun t209 => (if t209 < 1099511627776 then ((tick_Sub.f t209 a1).bind fun t218 => ((tick_Clamp.f a0).bind fun t216 => (if t218 = t216 then ((tick_Sub.f a0 a0).bind fun t220 => (if t220 = 0 then ((tick_Times.f a0 1).bind fun t221 => ((tick_Clamp.f a0).bind fun t216 => (if t221 = t216 then ((tick_Times.f a0 2).bind fun t223 => ((tick_Add.f a0 a0).bind fun t224 => (if t223 = t224 then ((berthinglaw01_one.f k).bind fun t225 => (some t225)) else (none)))) else (none)))) else (none))) else (none)))) else ((tick_Sub.f a0 a0).bind fun t226 => (if t226 = 0 then ((tick_Times.f a0 1).bind fun t227 => ((tick_Clamp.f a0).bind fun t216 => (if t227 = t216 then ((tick_Times.f a0 2).bind fun t229 => ((tick_Add.f a0 a0).bind fun t230 => (if t229 = t230 then ((berthinglaw01_one.f k).bind fun t231 => (some t231)) else (none)))) else (none)))) else (none)))))))) else (none))))) = some r := H
  have A7 := Aside0.mk A70
  clear A70
  replace H := Option.bind_eq_some_iff.mp H
  obtain ⟨t212, A80, H⟩ := H
  replace H : ((tick_Add.f a1 a2).bind fun t213 => ((tick_Add.f a0 t213).bind fun t214 => (if t212 = t214 then ((tick_Add.f a0 a1).bind fun t209 => ((tick_Clamp.f a0).bind fun t216 => (if t209 < t216 then (none) else ((tick_Add.f a0 a1).bind fun t209 => (if t209 < 1099511627776 then ((tick_Sub.f t209 a1).bind fun t218 => ((tick_Clamp.f a0).bind fun t216 => (if t218 = t216 then ((tick_Sub.f a0 a0).bind fun t220 => (if t220 = 0 then ((tick_Times.f a0 1).bind fun t221 => ((tick_Clamp.f a0).bind fun t216 => (if t221 = t216 then ((tick_Times.f a0 2).bind fun t223 => ((tick_Add.f a0 a0).bind fun t224 => (if t223 = t224 then ((berthinglaw01_one.f k).bind fun t225 => (some t225)) else (none)))) else (none)))) else (none))) else (none)))) else ((tick_Sub.f a0 a0).bind fun t226 => (if t226 = 0 then ((tick_Times.f a0 1).bind fun t227 => ((tick_Clamp.f a0).bind fun t216 => (if t227 = t216 then ((tick_Times.f a0 2).bind fun t229 => ((tick_Add.f a0 a0).bind fun t230 => (if t229 = t230 then ((berthinglaw01_one.f k).bind fun t231 => (some t231)) else (none)))) else (none)))) else (none)))))))) else (none)))) = some r := H
  have A8 := Aside0.mk A80
  clear A80
  replace H := Option.bind_eq_some_iff.mp H
  obtain ⟨t213, A90, H⟩ := H
  replace H : ((tick_Add.f a0 t213).bind fun t214 => (if t212 = t214 then ((tick_Add.f a0 a1).bind fun t209 => ((tick_Clamp.f a0).bind fun t216 => (if t209 < t216 then (none) else ((tick_Add.f a0 a1).bind fun t209 => (if t209 < 1099511627776 then ((tick_Sub.f t209 a1).bind fun t218 => ((tick_Clamp.f a0).bind fun t216 => (if t218 = t216 then ((tick_Sub.f a0 a0).bind fun t220 => (if t220 = 0 then ((tick_Times.f a0 1).bind fun t221 => ((tick_Clamp.f a0).bind fun t216 => (if t221 = t216 then ((tick_Times.f a0 2).bind fun t223 => ((tick_Add.f a0 a0).bind fun t224 => (if t223 = t224 then ((berthinglaw01_one.f k).bind fun t225 => (some t225)) else (none)))) else (none)))) else (none))) else (none)))) else ((tick_Sub.f a0 a0).bind fun t226 => (if t226 = 0 then ((tick_Times.f a0 1).bind fun t227 => ((tick_Clamp.f a0).bind fun t216 => (if t227 = t216 then ((tick_Times.f a0 2).bind fun t229 => ((tick_Add.f a0 a0).bind fun t230 => (if t229 = t230 then ((berthinglaw01_one.f k).bind fun t231 => (some t231)) else (none)))) else (none)))) else (none)))))))) else (none))) = some r := H
  have A9 := Aside0.mk A90
  clear A90
  replace H := Option.bind_eq_some_iff.mp H
  obtain ⟨t214, A100, H⟩ := H
  replace H : (if t212 = t214 then ((tick_Add.f a0 a1).bind fun t209 => ((tick_Clamp.f a0).bind fun t216 => (if t209 < t216 then (none) else ((tick_Add.f a0 a1).bind fun t209 => (if t209 < 1099511627776 then ((tick_Sub.f t209 a1).bind fun t218 => ((tick_Clamp.f a0).bind fun t216 => (if t218 = t216 then ((tick_Sub.f a0 a0).bind fun t220 => (if t220 = 0 then ((tick_Times.f a0 1).bind fun t221 => ((tick_Clamp.f a0).bind fun t216 => (if t221 = t216 then ((tick_Times.f a0 2).bind fun t223 => ((tick_Add.f a0 a0).bind fun t224 => (if t223 = t224 then ((berthinglaw01_one.f k).bind fun t225 => (some t225)) else (none)))) else (none)))) else (none))) else (none)))) else ((tick_Sub.f a0 a0).bind fun t226 => (if t226 = 0 then ((tick_Times.f a0 1).bind fun t227 => ((tick_Clamp.f a0).bind fun t216 => (if t227 = t216 then ((tick_Times.f a0 2).bind fun t229 => ((tick_Add.f a0 a0).bind fun t230 => (if t229 = t230 then ((berthinglaw01_one.f k).bind fun t231 => (some t231)) else (none)))) else (none)))) else (none)))))))) else (none)) = some r := H
  have A10 := Aside0.mk A100
  clear A100
  by_cases c11 : t212 = t214
  ·rw [if_pos c11] at H
   have c11b0 : (t212 == t214) = true := beq_iff_eq.mpr c11
   have c11b1 : (t212 != t214) = false := bne_eq_false_iff_eq.mpr c11
   clear c11
   replace H := Option.bind_eq_some_iff.mp H
   obtain ⟨t209d, A120, H⟩ := H
   obtain rfl : t209 = t209d := Option.some.inj (A4.out.symm.trans A120)
   replace H : ((tick_Clamp.f a0).bind fun t216 => (if t209 < t216 then (none) else ((tick_Add.f a0 a1).bind fun t209 => (if t209 < 1099511627776 then ((tick_Sub.f t209 a1).bind fun t218 => ((tick_Clamp.f a0).bind fun t216 => (if t218 = t216 then ((tick_Sub.f a0 a0).bind fun t220 => (if t220 = 0 then ((tick_Times.f a0 1).bind fun t221 => ((tick_Clamp.f a0).bind fun t216 => (if t221 = t216 then ((tick_Times.f a0 2).bind fun t223 => ((tick_Add.f a0 a0).bind fun t224 => (if t223 = t224 then ((berthinglaw01_one.f k).bind fun t225 => (some t225)) else (none)))) else (none)))) else (none))) else (none)))) else ((tick_Sub.f a0 a0).bind fun t226 => (if t226 = 0 then ((tick_Times.f a0 1).bind fun t227 => ((tick_Clamp.f a0).bind fun t216 => (if t227 = t216 then ((tick_Times.f a0 2).bind fun t229 => ((tick_Add.f a0 a0).bind fun t230 => (if t229 = t230 then ((berthinglaw01_one.f k).bind fun t231 => (some t231)) else (none)))) else (none)))) else (none))))))) = some r := H
   have A12 := Aside0.mk A120
   clear A120
   replace H := Option.bind_eq_some_iff.mp H
   obtain ⟨t216, A130, H⟩ := H
   replace H : (if t209 < t216 then (none) else ((tick_Add.f a0 a1).bind fun t209 => (if t209 < 1099511627776 then ((tick_Sub.f t209 a1).bind fun t218 => ((tick_Clamp.f a0).bind fun t216 => (if t218 = t216 then ((tick_Sub.f a0 a0).bind fun t220 => (if t220 = 0 then ((tick_Times.f a0 1).bind fun t221 => ((tick_Clamp.f a0).bind fun t216 => (if t221 = t216 then ((tick_Times.f a0 2).bind fun t223 => ((tick_Add.f a0 a0).bind fun t224 => (if t223 = t224 then ((berthinglaw01_one.f k).bind fun t225 => (some t225)) else (none)))) else (none)))) else (none))) else (none)))) else ((tick_Sub.f a0 a0).bind fun t226 => (if t226 = 0 then ((tick_Times.f a0 1).bind fun t227 => ((tick_Clamp.f a0).bind fun t216 => (if t227 = t216 then ((tick_Times.f a0 2).bind fun t229 => ((tick_Add.f a0 a0).bind fun t230 => (if t229 = t230 then ((berthinglaw01_one.f k).bind fun t231 => (some t231)) else (none)))) else (none)))) else (none)))))) = some r := H
   have A13 := Aside0.mk A130
   clear A130
   by_cases c14 : t209 < t216
   ·rw [if_pos c14] at H
    exact absurd H (by simp)
   ·rw [if_neg c14] at H
    have c14b0 : decide (t209 < t216) = false := decide_eq_false c14
    clear c14
    replace H := Option.bind_eq_some_iff.mp H
    obtain ⟨t209d, A150, H⟩ := H
    obtain rfl : t209 = t209d := Option.some.inj (A4.out.symm.trans A150)
    replace H : (if t209 < 1099511627776 then ((tick_Sub.f t209 a1).bind fun t218 => ((tick_Clamp.f a0).bind fun t216 => (if t218 = t216 then ((tick_Sub.f a0 a0).bind fun t220 => (if t220 = 0 then ((tick_Times.f a0 1).bind fun t221 => ((tick_Clamp.f a0).bind fun t216 => (if t221 = t216 then ((tick_Times.f a0 2).bind fun t223 => ((tick_Add.f a0 a0).bind fun t224 => (if t223 = t224 then ((berthinglaw01_one.f k).bind fun t225 => (some t225)) else (none)))) else (none)))) else (none))) else (none)))) else ((tick_Sub.f a0 a0).bind fun t226 => (if t226 = 0 then ((tick_Times.f a0 1).bind fun t227 => ((tick_Clamp.f a0).bind fun t216 => (if t227 = t216 then ((tick_Times.f a0 2).bind fun t229 => ((tick_Add.f a0 a0).bind fun t230 => (if t229 = t230 then ((berthinglaw01_one.f k).bind fun t231 => (some t231)) else (none)))) else (none)))) else (none)))) = some r := H
    have A15 := Aside0.mk A150
    clear A150
    by_cases c16 : t209 < 1099511627776
    ·rw [if_pos c16] at H
     have c16b0 : decide (t209 < 1099511627776) = true := decide_eq_true c16
     clear c16
     replace H := Option.bind_eq_some_iff.mp H
     obtain ⟨t218, A170, H⟩ := H
     replace H : ((tick_Clamp.f a0).bind fun t216 => (if t218 = t216 then ((tick_Sub.f a0 a0).bind fun t220 => (if t220 = 0 then ((tick_Times.f a0 1).bind fun t221 => ((tick_Clamp.f a0).bind fun t216 => (if t221 = t216 then ((tick_Times.f a0 2).bind fun t223 => ((tick_Add.f a0 a0).bind fun t224 => (if t223 = t224 then ((berthinglaw01_one.f k).bind fun t225 => (some t225)) else (none)))) else (none)))) else (none))) else (none))) = some r := H
     have A17 := Aside0.mk A170
     clear A170
     replace H := Option.bind_eq_some_iff.mp H
     obtain ⟨t216d, A180, H⟩ := H
     obtain rfl : t216 = t216d := Option.some.inj (A13.out.symm.trans A180)
     replace H : (if t218 = t216 then ((tick_Sub.f a0 a0).bind fun t220 => (if t220 = 0 then ((tick_Times.f a0 1).bind fun t221 => ((tick_Clamp.f a0).bind fun t216 => (if t221 = t216 then ((tick_Times.f a0 2).bind fun t223 => ((tick_Add.f a0 a0).bind fun t224 => (if t223 = t224 then ((berthinglaw01_one.f k).bind fun t225 => (some t225)) else (none)))) else (none)))) else (none))) else (none)) = some r := H
     have A18 := Aside0.mk A180
     clear A180
     by_cases c19 : t218 = t216
     ·rw [if_pos c19] at H
      have c19b0 : (t218 == t216) = true := beq_iff_eq.mpr c19
      have c19b1 : (t218 != t216) = false := bne_eq_false_iff_eq.mpr c19
      clear c19
      replace H := Option.bind_eq_some_iff.mp H
      obtain ⟨t220, A200, H⟩ := H
      replace H : (if t220 = 0 then ((tick_Times.f a0 1).bind fun t221 => ((tick_Clamp.f a0).bind fun t216 => (if t221 = t216 then ((tick_Times.f a0 2).bind fun t223 => ((tick_Add.f a0 a0).bind fun t224 => (if t223 = t224 then ((berthinglaw01_one.f k).bind fun t225 => (some t225)) else (none)))) else (none)))) else (none)) = some r := H
      have A20 := Aside0.mk A200
      clear A200
      by_cases c21 : t220 = 0
      ·rw [if_pos c21] at H
       have c21b0 : (t220 == 0) = true := beq_iff_eq.mpr c21
       have c21b1 : (t220 != 0) = false := bne_eq_false_iff_eq.mpr c21
       clear c21
       replace H := Option.bind_eq_some_iff.mp H
       obtain ⟨t221, A220, H⟩ := H
       replace H : ((tick_Clamp.f a0).bind fun t216 => (if t221 = t216 then ((tick_Times.f a0 2).bind fun t223 => ((tick_Add.f a0 a0).bind fun t224 => (if t223 = t224 then ((berthinglaw01_one.f k).bind fun t225 => (some t225)) else (none)))) else (none))) = some r := H
       have A22 := Aside0.mk A220
       clear A220
       replace H := Option.bind_eq_some_iff.mp H
       obtain ⟨t216d, A230, H⟩ := H
       obtain rfl : t216 = t216d := Option.some.inj (A13.out.symm.trans A230)
       replace H : (if t221 = t216 then ((tick_Times.f a0 2).bind fun t223 => ((tick_Add.f a0 a0).bind fun t224 => (if t223 = t224 then ((berthinglaw01_one.f k).bind fun t225 => (some t225)) else (none)))) else (none)) = some r := H
       have A23 := Aside0.mk A230
       clear A230
       by_cases c24 : t221 = t216
       ·rw [if_pos c24] at H
        have c24b0 : (t221 == t216) = true := beq_iff_eq.mpr c24
        have c24b1 : (t221 != t216) = false := bne_eq_false_iff_eq.mpr c24
        clear c24
        replace H := Option.bind_eq_some_iff.mp H
        obtain ⟨t223, A250, H⟩ := H
        replace H : ((tick_Add.f a0 a0).bind fun t224 => (if t223 = t224 then ((berthinglaw01_one.f k).bind fun t225 => (some t225)) else (none))) = some r := H
        have A25 := Aside0.mk A250
        clear A250
        replace H := Option.bind_eq_some_iff.mp H
        obtain ⟨t224, A260, H⟩ := H
        replace H : (if t223 = t224 then ((berthinglaw01_one.f k).bind fun t225 => (some t225)) else (none)) = some r := H
        have A26 := Aside0.mk A260
        clear A260
        by_cases c27 : t223 = t224
        ·rw [if_pos c27] at H
         have c27b0 : (t223 == t224) = true := beq_iff_eq.mpr c27
         have c27b1 : (t223 != t224) = false := bne_eq_false_iff_eq.mpr c27
         clear c27
         replace H := Option.bind_eq_some_iff.mp H
         obtain ⟨t225, A280, H⟩ := H
         replace H : (some t225) = some r := H
         have A28 := Aside0.mk A280
         clear A280
         obtain rfl := Option.some.inj H
         go_enter Try.func4, Try.ntmps4
         go_wp2_with (first | ((with_reducible refine gate_callee (f := 13) rfl ?_); refine goesL_ (some 10) rfl rfl Try.func13 (by kernel_rfl) rfl #[.int .i64 a0, .int .i64 a1] rfl (by (try simp only [List.map_toArray, List.map_cons, List.map_nil]); first | done | rfl | (simp only [List.length_drop, List.length_take]; rfl)) ?_; (with_reducible refine (tick_Add.calls a0 a1 t209 _ A4.out).mono ?_); rintro e w29 ⟨rfl, hb⟩; refine ⟨_, rfl, ?_⟩; have n0_ := Aside0.mk (below_step (by repeat (first | (with_reducible first | exact HB.out | apply below_alloc | apply pw_below_drewN | apply below_drew1) | exact HB.out)) hb); clear HB; have HB := n0_; clear n0_; (try clear hb); (try clear hb2); (try clear hk); (try clear hi)) | ((with_reducible refine gate_callee (f := 13) rfl ?_); refine goesL_ (some 13) rfl rfl Try.func13 (by kernel_rfl) rfl #[.int .i64 a1, .int .i64 a0] rfl (by (try simp only [List.map_toArray, List.map_cons, List.map_nil]); first | done | rfl | (simp only [List.length_drop, List.length_take]; rfl)) ?_; (with_reducible refine (tick_Add.calls a1 a0 t210 _ A5.out).mono ?_); rintro e w30 ⟨rfl, hb⟩; refine ⟨_, rfl, ?_⟩; have n0_ := Aside0.mk (below_step (by repeat (first | (with_reducible first | exact HB.out | apply below_alloc | apply pw_below_drewN | apply below_drew1) | exact HB.out)) hb); clear HB; have HB := n0_; clear n0_; (try clear hb); (try clear hb2); (try clear hk); (try clear hi)) | (go_at_call 13; (with_reducible refine (tick_Add.calls a0 a1 t209 _ A7.out).mono ?_); rintro e w31 ⟨rfl, hb⟩; have n0_ := Aside0.mk (below_step (by repeat (first | (with_reducible first | exact HB.out | apply below_alloc | apply pw_below_drewN | apply below_drew1) | exact HB.out)) hb); clear HB; have HB := n0_; clear n0_; (try clear hb); (try clear hb2); (try clear hk); (try clear hi)) | (go_at_call 13; (with_reducible refine (tick_Add.calls t209 a2 t212 _ A8.out).mono ?_); rintro e w32 ⟨rfl, hb⟩; have n0_ := Aside0.mk (below_step (by repeat (first | (with_reducible first | exact HB.out | apply below_alloc | apply pw_below_drewN | apply below_drew1) | exact HB.out)) hb); clear HB; have HB := n0_; clear n0_; (try clear hb); (try clear hb2); (try clear hk); (try clear hi)) | (go_at_call 13; (with_reducible refine (tick_Add.calls a1 a2 t213 _ A9.out).mono ?_); rintro e w33 ⟨rfl, hb⟩; have n0_ := Aside0.mk (below_step (by repeat (first | (with_reducible first | exact HB.out | apply below_alloc | apply pw_below_drewN | apply below_drew1) | exact HB.out)) hb); clear HB; have HB := n0_; clear n0_; (try clear hb); (try clear hb2); (try clear hk); (try clear hi)) | (go_at_call 13; (with_reducible refine (tick_Add.calls a0 t213 t214 _ A10.out).mono ?_); rintro e w34 ⟨rfl, hb⟩; have n0_ := Aside0.mk (below_step (by repeat (first | (with_reducible first | exact HB.out | apply below_alloc | apply pw_below_drewN | apply below_drew1) | exact HB.out)) hb); clear HB; have HB := n0_; clear n0_; (try clear hb); (try clear hb2); (try clear hk); (try clear hi)) | (go_at_call 13; (with_reducible refine (tick_Add.calls a0 a1 t209 _ A12.out).mono ?_); rintro e w35 ⟨rfl, hb⟩; have n0_ := Aside0.mk (below_step (by repeat (first | (with_reducible first | exact HB.out | apply below_alloc | apply pw_below_drewN | apply below_drew1) | exact HB.out)) hb); clear HB; have HB := n0_; clear n0_; (try clear hb); (try clear hb2); (try clear hk); (try clear hi)) | (go_at_call 14; (with_reducible refine (tick_Clamp.calls a0 t216 _ A13.out).mono ?_); rintro e w36 ⟨rfl, hb⟩; have n0_ := Aside0.mk (below_step (by repeat (first | (with_reducible first | exact HB.out | apply below_alloc | apply pw_below_drewN | apply below_drew1) | exact HB.out)) hb); clear HB; have HB := n0_; clear n0_; (try clear hb); (try clear hb2); (try clear hk); (try clear hi)) | ((with_reducible refine gate_callee (f := 13) rfl ?_); refine goesL_ (some 38) rfl rfl Try.func13 (by kernel_rfl) rfl #[.int .i64 a0, .int .i64 a1] rfl (by (try simp only [List.map_toArray, List.map_cons, List.map_nil]); first | done | rfl | (simp only [List.length_drop, List.length_take]; rfl)) ?_; (with_reducible refine (tick_Add.calls a0 a1 t209 _ A15.out).mono ?_); rintro e w37 ⟨rfl, hb⟩; refine ⟨_, rfl, ?_⟩; have n0_ := Aside0.mk (below_step (by repeat (first | (with_reducible first | exact HB.out | apply below_alloc | apply pw_below_drewN | apply below_drew1) | exact HB.out)) hb); clear HB; have HB := n0_; clear n0_; (try clear hb); (try clear hb2); (try clear hk); (try clear hi)) | (go_at_call 15; (with_reducible refine (tick_Sub.calls t209 a1 t218 _ A17.out).mono ?_); rintro e w38 ⟨rfl, hb⟩; have n0_ := Aside0.mk (below_step (by repeat (first | (with_reducible first | exact HB.out | apply below_alloc | apply pw_below_drewN | apply below_drew1) | exact HB.out)) hb); clear HB; have HB := n0_; clear n0_; (try clear hb); (try clear hb2); (try clear hk); (try clear hi)) | (go_at_call 14; (with_reducible refine (tick_Clamp.calls a0 t216 _ A18.out).mono ?_); rintro e w39 ⟨rfl, hb⟩; have n0_ := Aside0.mk (below_step (by repeat (first | (with_reducible first | exact HB.out | apply below_alloc | apply pw_below_drewN | apply below_drew1) | exact HB.out)) hb); clear HB; have HB := n0_; clear n0_; (try clear hb); (try clear hb2); (try clear hk); (try clear hi)) | ((with_reducible refine gate_callee (f := 15) rfl ?_); refine goesL_ (some 51) rfl rfl Try.func15 (by kernel_rfl) rfl #[.int .i64 a0, .int .i64 a0] rfl (by (try simp only [List.map_toArray, List.map_cons, List.map_nil]); first | done | rfl | (simp only [List.length_drop, List.length_take]; rfl)) ?_; (with_reducible refine (tick_Sub.calls a0 a0 t220 _ A20.out).mono ?_); rintro e w40 ⟨rfl, hb⟩; refine ⟨_, rfl, ?_⟩; have n0_ := Aside0.mk (below_step (by repeat (first | (with_reducible first | exact HB.out | apply below_alloc | apply pw_below_drewN | apply below_drew1) | exact HB.out)) hb); clear HB; have HB := n0_; clear n0_; (try clear hb); (try clear hb2); (try clear hk); (try clear hi)) | (go_at_call 16; (with_reducible refine (tick_Times.calls a0 1 t221 _ A22.out).mono ?_); rintro e w41 ⟨rfl, hb⟩; have n0_ := Aside0.mk (below_step (by repeat (first | (with_reducible first | exact HB.out | apply below_alloc | apply pw_below_drewN | apply below_drew1) | exact HB.out)) hb); clear HB; have HB := n0_; clear n0_; (try clear hb); (try clear hb2); (try clear hk); (try clear hi)) | (go_at_call 14; (with_reducible refine (tick_Clamp.calls a0 t216 _ A23.out).mono ?_); rintro e w42 ⟨rfl, hb⟩; have n0_ := Aside0.mk (below_step (by repeat (first | (with_reducible first | exact HB.out | apply below_alloc | apply pw_below_drewN | apply below_drew1) | exact HB.out)) hb); clear HB; have HB := n0_; clear n0_; (try clear hb); (try clear hb2); (try clear hk); (try clear hi)) | (go_at_call 16; (with_reducible refine (tick_Times.calls a0 2 t223 _ A25.out).mono ?_); rintro e w43 ⟨rfl, hb⟩; have n0_ := Aside0.mk (below_step (by repeat (first | (with_reducible first | exact HB.out | apply below_alloc | apply pw_below_drewN | apply below_drew1) | exact HB.out)) hb); clear HB; have HB := n0_; clear n0_; (try clear hb); (try clear hb2); (try clear hk); (try clear hi)) | (go_at_call 13; (with_reducible refine (tick_Add.calls a0 a0 t224 _ A26.out).mono ?_); rintro e w44 ⟨rfl, hb⟩; have n0_ := Aside0.mk (below_step (by repeat (first | (with_reducible first | exact HB.out | apply below_alloc | apply pw_below_drewN | apply below_drew1) | exact HB.out)) hb); clear HB; have HB := n0_; clear n0_; (try clear hb); (try clear hb2); (try clear hk); (try clear hi)) | (go_at_call 12; (with_reducible refine (berthinglaw01_one.calls k  t225 _ A28.out).mono ?_); rintro e w45 ⟨rfl, hb⟩; have n0_ := Aside0.mk (below_step (by repeat (first | (with_reducible first | exact HB.out | apply below_alloc | apply pw_below_drewN | apply below_drew1) | exact HB.out)) hb); clear HB; have HB := n0_; clear n0_; (try clear hb); (try clear hb2); (try clear hk); (try clear hi)))
         go_ret
         exact ⟨by first | rfl | (simp [errW_none, errW_some] <;> rfl) | (simp [*, errW_none, errW_some] <;> rfl), by repeat (first | (with_reducible first | exact HB.out | apply below_alloc | apply pw_below_drewN | apply below_drew1) | exact HB.out)⟩
        ·rw [if_neg c27] at H
         exact absurd H (by simp)
       ·rw [if_neg c24] at H
        exact absurd H (by simp)
      ·rw [if_neg c21] at H
       exact absurd H (by simp)
     ·rw [if_neg c19] at H
      exact absurd H (by simp)
    ·rw [if_neg c16] at H
     have c16b0 : decide (t209 < 1099511627776) = false := decide_eq_false c16
     clear c16
     replace H := Option.bind_eq_some_iff.mp H
     obtain ⟨t226, A460, H⟩ := H
     replace H : (if t226 = 0 then ((tick_Times.f a0 1).bind fun t227 => ((tick_Clamp.f a0).bind fun t216 => (if t227 = t216 then ((tick_Times.f a0 2).bind fun t229 => ((tick_Add.f a0 a0).bind fun t230 => (if t229 = t230 then ((berthinglaw01_one.f k).bind fun t231 => (some t231)) else (none)))) else (none)))) else (none)) = some r := H
     have A46 := Aside0.mk A460
     clear A460
     by_cases c47 : t226 = 0
     ·rw [if_pos c47] at H
      have c47b0 : (t226 == 0) = true := beq_iff_eq.mpr c47
      have c47b1 : (t226 != 0) = false := bne_eq_false_iff_eq.mpr c47
      clear c47
      replace H := Option.bind_eq_some_iff.mp H
      obtain ⟨t227, A480, H⟩ := H
      replace H : ((tick_Clamp.f a0).bind fun t216 => (if t227 = t216 then ((tick_Times.f a0 2).bind fun t229 => ((tick_Add.f a0 a0).bind fun t230 => (if t229 = t230 then ((berthinglaw01_one.f k).bind fun t231 => (some t231)) else (none)))) else (none))) = some r := H
      have A48 := Aside0.mk A480
      clear A480
      replace H := Option.bind_eq_some_iff.mp H
      obtain ⟨t216d, A490, H⟩ := H
      obtain rfl : t216 = t216d := Option.some.inj (A13.out.symm.trans A490)
      replace H : (if t227 = t216 then ((tick_Times.f a0 2).bind fun t229 => ((tick_Add.f a0 a0).bind fun t230 => (if t229 = t230 then ((berthinglaw01_one.f k).bind fun t231 => (some t231)) else (none)))) else (none)) = some r := H
      have A49 := Aside0.mk A490
      clear A490
      by_cases c50 : t227 = t216
      ·rw [if_pos c50] at H
       have c50b0 : (t227 == t216) = true := beq_iff_eq.mpr c50
       have c50b1 : (t227 != t216) = false := bne_eq_false_iff_eq.mpr c50
       clear c50
       replace H := Option.bind_eq_some_iff.mp H
       obtain ⟨t229, A510, H⟩ := H
       replace H : ((tick_Add.f a0 a0).bind fun t230 => (if t229 = t230 then ((berthinglaw01_one.f k).bind fun t231 => (some t231)) else (none))) = some r := H
       have A51 := Aside0.mk A510
       clear A510
       replace H := Option.bind_eq_some_iff.mp H
       obtain ⟨t230, A520, H⟩ := H
       replace H : (if t229 = t230 then ((berthinglaw01_one.f k).bind fun t231 => (some t231)) else (none)) = some r := H
       have A52 := Aside0.mk A520
       clear A520
       by_cases c53 : t229 = t230
       ·rw [if_pos c53] at H
        have c53b0 : (t229 == t230) = true := beq_iff_eq.mpr c53
        have c53b1 : (t229 != t230) = false := bne_eq_false_iff_eq.mpr c53
        clear c53
        replace H := Option.bind_eq_some_iff.mp H
        obtain ⟨t231, A540, H⟩ := H
        replace H : (some t231) = some r := H
        have A54 := Aside0.mk A540
        clear A540
        obtain rfl := Option.some.inj H
        go_enter Try.func4, Try.ntmps4
        go_wp2_with (first | ((with_reducible refine gate_callee (f := 13) rfl ?_); refine goesL_ (some 10) rfl rfl Try.func13 (by kernel_rfl) rfl #[.int .i64 a0, .int .i64 a1] rfl (by (try simp only [List.map_toArray, List.map_cons, List.map_nil]); first | done | rfl | (simp only [List.length_drop, List.length_take]; rfl)) ?_; (with_reducible refine (tick_Add.calls a0 a1 t209 _ A4.out).mono ?_); rintro e w55 ⟨rfl, hb⟩; refine ⟨_, rfl, ?_⟩; have n0_ := Aside0.mk (below_step (by repeat (first | (with_reducible first | exact HB.out | apply below_alloc | apply pw_below_drewN | apply below_drew1) | exact HB.out)) hb); clear HB; have HB := n0_; clear n0_; (try clear hb); (try clear hb2); (try clear hk); (try clear hi)) | ((with_reducible refine gate_callee (f := 13) rfl ?_); refine goesL_ (some 13) rfl rfl Try.func13 (by kernel_rfl) rfl #[.int .i64 a1, .int .i64 a0] rfl (by (try simp only [List.map_toArray, List.map_cons, List.map_nil]); first | done | rfl | (simp only [List.length_drop, List.length_take]; rfl)) ?_; (with_reducible refine (tick_Add.calls a1 a0 t210 _ A5.out).mono ?_); rintro e w56 ⟨rfl, hb⟩; refine ⟨_, rfl, ?_⟩; have n0_ := Aside0.mk (below_step (by repeat (first | (with_reducible first | exact HB.out | apply below_alloc | apply pw_below_drewN | apply below_drew1) | exact HB.out)) hb); clear HB; have HB := n0_; clear n0_; (try clear hb); (try clear hb2); (try clear hk); (try clear hi)) | (go_at_call 13; (with_reducible refine (tick_Add.calls a0 a1 t209 _ A7.out).mono ?_); rintro e w57 ⟨rfl, hb⟩; have n0_ := Aside0.mk (below_step (by repeat (first | (with_reducible first | exact HB.out | apply below_alloc | apply pw_below_drewN | apply below_drew1) | exact HB.out)) hb); clear HB; have HB := n0_; clear n0_; (try clear hb); (try clear hb2); (try clear hk); (try clear hi)) | (go_at_call 13; (with_reducible refine (tick_Add.calls t209 a2 t212 _ A8.out).mono ?_); rintro e w58 ⟨rfl, hb⟩; have n0_ := Aside0.mk (below_step (by repeat (first | (with_reducible first | exact HB.out | apply below_alloc | apply pw_below_drewN | apply below_drew1) | exact HB.out)) hb); clear HB; have HB := n0_; clear n0_; (try clear hb); (try clear hb2); (try clear hk); (try clear hi)) | (go_at_call 13; (with_reducible refine (tick_Add.calls a1 a2 t213 _ A9.out).mono ?_); rintro e w59 ⟨rfl, hb⟩; have n0_ := Aside0.mk (below_step (by repeat (first | (with_reducible first | exact HB.out | apply below_alloc | apply pw_below_drewN | apply below_drew1) | exact HB.out)) hb); clear HB; have HB := n0_; clear n0_; (try clear hb); (try clear hb2); (try clear hk); (try clear hi)) | (go_at_call 13; (with_reducible refine (tick_Add.calls a0 t213 t214 _ A10.out).mono ?_); rintro e w60 ⟨rfl, hb⟩; have n0_ := Aside0.mk (below_step (by repeat (first | (with_reducible first | exact HB.out | apply below_alloc | apply pw_below_drewN | apply below_drew1) | exact HB.out)) hb); clear HB; have HB := n0_; clear n0_; (try clear hb); (try clear hb2); (try clear hk); (try clear hi)) | (go_at_call 13; (with_reducible refine (tick_Add.calls a0 a1 t209 _ A12.out).mono ?_); rintro e w61 ⟨rfl, hb⟩; have n0_ := Aside0.mk (below_step (by repeat (first | (with_reducible first | exact HB.out | apply below_alloc | apply pw_below_drewN | apply below_drew1) | exact HB.out)) hb); clear HB; have HB := n0_; clear n0_; (try clear hb); (try clear hb2); (try clear hk); (try clear hi)) | (go_at_call 14; (with_reducible refine (tick_Clamp.calls a0 t216 _ A13.out).mono ?_); rintro e w62 ⟨rfl, hb⟩; have n0_ := Aside0.mk (below_step (by repeat (first | (with_reducible first | exact HB.out | apply below_alloc | apply pw_below_drewN | apply below_drew1) | exact HB.out)) hb); clear HB; have HB := n0_; clear n0_; (try clear hb); (try clear hb2); (try clear hk); (try clear hi)) | ((with_reducible refine gate_callee (f := 13) rfl ?_); refine goesL_ (some 38) rfl rfl Try.func13 (by kernel_rfl) rfl #[.int .i64 a0, .int .i64 a1] rfl (by (try simp only [List.map_toArray, List.map_cons, List.map_nil]); first | done | rfl | (simp only [List.length_drop, List.length_take]; rfl)) ?_; (with_reducible refine (tick_Add.calls a0 a1 t209 _ A15.out).mono ?_); rintro e w63 ⟨rfl, hb⟩; refine ⟨_, rfl, ?_⟩; have n0_ := Aside0.mk (below_step (by repeat (first | (with_reducible first | exact HB.out | apply below_alloc | apply pw_below_drewN | apply below_drew1) | exact HB.out)) hb); clear HB; have HB := n0_; clear n0_; (try clear hb); (try clear hb2); (try clear hk); (try clear hi)) | ((with_reducible refine gate_callee (f := 15) rfl ?_); refine goesL_ (some 51) rfl rfl Try.func15 (by kernel_rfl) rfl #[.int .i64 a0, .int .i64 a0] rfl (by (try simp only [List.map_toArray, List.map_cons, List.map_nil]); first | done | rfl | (simp only [List.length_drop, List.length_take]; rfl)) ?_; (with_reducible refine (tick_Sub.calls a0 a0 t226 _ A46.out).mono ?_); rintro e w64 ⟨rfl, hb⟩; refine ⟨_, rfl, ?_⟩; have n0_ := Aside0.mk (below_step (by repeat (first | (with_reducible first | exact HB.out | apply below_alloc | apply pw_below_drewN | apply below_drew1) | exact HB.out)) hb); clear HB; have HB := n0_; clear n0_; (try clear hb); (try clear hb2); (try clear hk); (try clear hi)) | (go_at_call 16; (with_reducible refine (tick_Times.calls a0 1 t227 _ A48.out).mono ?_); rintro e w65 ⟨rfl, hb⟩; have n0_ := Aside0.mk (below_step (by repeat (first | (with_reducible first | exact HB.out | apply below_alloc | apply pw_below_drewN | apply below_drew1) | exact HB.out)) hb); clear HB; have HB := n0_; clear n0_; (try clear hb); (try clear hb2); (try clear hk); (try clear hi)) | (go_at_call 14; (with_reducible refine (tick_Clamp.calls a0 t216 _ A49.out).mono ?_); rintro e w66 ⟨rfl, hb⟩; have n0_ := Aside0.mk (below_step (by repeat (first | (with_reducible first | exact HB.out | apply below_alloc | apply pw_below_drewN | apply below_drew1) | exact HB.out)) hb); clear HB; have HB := n0_; clear n0_; (try clear hb); (try clear hb2); (try clear hk); (try clear hi)) | (go_at_call 16; (with_reducible refine (tick_Times.calls a0 2 t229 _ A51.out).mono ?_); rintro e w67 ⟨rfl, hb⟩; have n0_ := Aside0.mk (below_step (by repeat (first | (with_reducible first | exact HB.out | apply below_alloc | apply pw_below_drewN | apply below_drew1) | exact HB.out)) hb); clear HB; have HB := n0_; clear n0_; (try clear hb); (try clear hb2); (try clear hk); (try clear hi)) | (go_at_call 13; (with_reducible refine (tick_Add.calls a0 a0 t230 _ A52.out).mono ?_); rintro e w68 ⟨rfl, hb⟩; have n0_ := Aside0.mk (below_step (by repeat (first | (with_reducible first | exact HB.out | apply below_alloc | apply pw_below_drewN | apply below_drew1) | exact HB.out)) hb); clear HB; have HB := n0_; clear n0_; (try clear hb); (try clear hb2); (try clear hk); (try clear hi)) | (go_at_call 12; (with_reducible refine (berthinglaw01_one.calls k  t231 _ A54.out).mono ?_); rintro e w69 ⟨rfl, hb⟩; have n0_ := Aside0.mk (below_step (by repeat (first | (with_reducible first | exact HB.out | apply below_alloc | apply pw_below_drewN | apply below_drew1) | exact HB.out)) hb); clear HB; have HB := n0_; clear n0_; (try clear hb); (try clear hb2); (try clear hk); (try clear hi)))
        go_ret
        exact ⟨by first | rfl | (simp [errW_none, errW_some] <;> rfl) | (simp [*, errW_none, errW_some] <;> rfl), by repeat (first | (with_reducible first | exact HB.out | apply below_alloc | apply pw_below_drewN | apply below_drew1) | exact HB.out)⟩
       ·rw [if_neg c53] at H
        exact absurd H (by simp)
      ·rw [if_neg c50] at H
       exact absurd H (by simp)
     ·rw [if_neg c47] at H
      exact absurd H (by simp)
  ·rw [if_neg c11] at H
   exact absurd H (by simp)
 ·rw [if_neg c6] at H
  exact absurd H (by simp)

/-- THE ONE PURE STATEMENT of berthinglaw01_TickOrders: yours. -/
def berthinglaw01_TickOrders.Pure : Prop := ∀ (a0 : Int) (a1 : Int) (a2 : Int), (Lit.int .i64 a0).wf = true → (Lit.int .i64 a1).wf = true → (Lit.int .i64 a2).wf = true → ∃ k, berthinglaw01_TickOrders.f k a0 a1 a2 = some true
theorem berthinglaw01_TickOrders.walk (P : berthinglaw01_TickOrders.Pure) (a0 : Int) (a1 : Int) (a2 : Int) (w : World) (w0 : (Lit.int .i64 a0).wf = true) (w1 : (Lit.int .i64 a1).wf = true) (w2 : (Lit.int .i64 a2).wf = true) :
  Calls Try.prog 4 #[.int .i64 a0, .int .i64 a1, .int .i64 a2] w fun e w' => e = .returned (.bool true) ∧ Below w.heap.size w w' := by
 obtain ⟨k, h⟩ := P a0 a1 a2 w0 w1 w2
 refine (berthinglaw01_TickOrders.calls k a0 a1 a2 true w h).mono ?_
 rintro e w' ⟨rfl, hd⟩
 exact ⟨rfl, hd⟩

end Go.Proofs.Ytgdlhfmdgibkbaa.PTick
