/- By a program of this session (the print, with contracts written by hand let in), key Find: what the functions come to as Lean functions, and the contracts that lead from the Go code to them. Conditions: those of the statements. -/
import Derived.Test.YtlddccmgamlccaaUK
import Derived.Test.YtlddccmgamlccaaUPut
import Derived.Test.YtlddccmgamlccaaPFindx0
namespace Go.Proofs.Ytlddccmgamlccaa.PFind
open Go Go.Proofs Go.RowKit Go.Proofs.Ytlddccmgamlccaa.PFitRoom Go.Proofs.Ytlddccmgamlccaa.Us Go.Proofs.YtlddccmgamlccaaW.PrintWords Go.Proofs.YtlddccmgamlccaaW.PrintLast Go.Proofs.YtlddccmgamlccaaW.PrintMore
attribute [local go_sem] max2_int min2_int max_two min_two max_three min_three max_four min_four   -- for this text's walks alone
set_option linter.unusedVariables false
set_option linter.unusedSimpArgs false

/-! ### berthingref01_Join: function 49 -/
mutual
def berthingref01_Join.l0 : Nat → List (S55) → List (S55) → Int → Option ((List (S55)))
 | 0, _, _, _ => none
 | k + 1, x0, x3, x4 => if x4 < (x0.length : Int) then (if 0 ≤ x4 then ((berthingref01_Span_Clean.f ((rd_T55 x0 x4).f0) ((rd_T55 x0 x4).f1)).bind fun bt182 => (if bt182.1 = bt182.2 then (berthingref01_Join.l0 k x0 x3 (wrap64 (x4 + 1))) else (berthingref01_Join.l1 k x0 x3 x4 ([] : List (S55)) false 0 bt182.1 bt182.2))) else (none)) else (some x3)
def berthingref01_Join.l1 : Nat → List (S55) → List (S55) → Int → List (S55) → Bool → Int → Int → Int → Option ((List (S55)))
 | 0, _, _, _, _, _, _, _, _ => none
 | k + 1, x0, x3, x4, x6, x7, x8, x185000, x185001 => if x8 < (x3.length : Int) then (if 0 ≤ x8 then (if ((rd_T55 x3 x8).f1) < x185000 then (if x6.length < 8796093022208 then (berthingref01_Join.l1 k x0 x3 x4 (x6 ++ [(⟨(rd_T55 x3 x8).f0, (rd_T55 x3 x8).f1⟩ : S55)]) x7 (wrap64 (x8 + 1)) x185000 x185001) else (none)) else (if ((rd_T55 x3 x8).f0) > x185001 then (if x7 = true then (if x6.length < 8796093022208 then (berthingref01_Join.l1 k x0 x3 x4 (x6 ++ [(⟨(rd_T55 x3 x8).f0, (rd_T55 x3 x8).f1⟩ : S55)]) x7 (wrap64 (x8 + 1)) x185000 x185001) else (none)) else (if x6.length < 8796093022208 then ((some (x6 ++ [(⟨x185000, x185001⟩ : S55)] : List (S55))).bind fun y196 => (if y196.length < 8796093022208 then (berthingref01_Join.l1 k x0 x3 x4 (y196 ++ [(⟨(rd_T55 x3 x8).f0, (rd_T55 x3 x8).f1⟩ : S55)]) true (wrap64 (x8 + 1)) x185000 x185001) else (none))) else (none))) else (berthingref01_Join.l1 k x0 x3 x4 x6 x7 (wrap64 (x8 + 1)) (mn x185000 ((rd_T55 x3 x8).f0)) (mx x185001 ((rd_T55 x3 x8).f1))))) else (none)) else (if x7 = true then (berthingref01_Join.l0 k x0 x6 (wrap64 (x4 + 1))) else (if x6.length < 8796093022208 then (berthingref01_Join.l0 k x0 (x6 ++ [(⟨x185000, x185001⟩ : S55)]) (wrap64 (x4 + 1))) else (none)))
end
def berthingref01_Join.f (k : Nat) (l0 : List (S55)) : Option ((List (S55))) := berthingref01_Join.l0 k l0 ([] : List (S55)) 0
theorem berthingref01_Join.mono_l : ∀ k, (∀ y0 y1 y2, LeO (berthingref01_Join.l0 k y0 y1 y2) (berthingref01_Join.l0 (k + 1) y0 y1 y2)) ∧ (∀ y0 y1 y2 y3 y4 y5 y6 y7, LeO (berthingref01_Join.l1 k y0 y1 y2 y3 y4 y5 y6 y7) (berthingref01_Join.l1 (k + 1) y0 y1 y2 y3 y4 y5 y6 y7))
 | 0 => ⟨fun _ _ _ r h => by simp [berthingref01_Join.l0] at h, fun _ _ _ _ _ _ _ _ r h => by simp [berthingref01_Join.l1] at h⟩
 | k + 1 => by
  obtain ⟨ih0, ih1⟩ := berthingref01_Join.mono_l k
  refine ⟨?_, ?_⟩
  ·intro y0 y1 y2
   unfold berthingref01_Join.l0
   repeat' first
   | (with_reducible exact ih0 _ _ _)
   | (with_reducible exact ih1 _ _ _ _ _ _ _ _)
   | (with_reducible exact LeO.refl _)
   | (with_reducible exact LeO.none _)
   | (with_reducible refine LeO.ite ?_ ?_)
   | (with_reducible refine LeO.bind ?_ (fun _ => ?_))
   | exact ih0 _ _ _
   | exact ih1 _ _ _ _ _ _ _ _
   | exact LeO.none _
   | refine LeO.ite ?_ ?_
   | refine LeO.bind ?_ (fun _ => ?_)
  ·intro y0 y1 y2 y3 y4 y5 y6 y7
   unfold berthingref01_Join.l1
   repeat' first
   | (with_reducible exact ih0 _ _ _)
   | (with_reducible exact ih1 _ _ _ _ _ _ _ _)
   | (with_reducible exact LeO.refl _)
   | (with_reducible exact LeO.none _)
   | (with_reducible refine LeO.ite ?_ ?_)
   | (with_reducible refine LeO.bind ?_ (fun _ => ?_))
   | exact ih0 _ _ _
   | exact ih1 _ _ _ _ _ _ _ _
   | exact LeO.none _
   | refine LeO.ite ?_ ?_
   | refine LeO.bind ?_ (fun _ => ?_)
theorem berthingref01_Join.mono : ∀ a0 k, LeO (berthingref01_Join.f k a0) (berthingref01_Join.f (k + 1) a0) := by
 intro a0 k
 obtain ⟨ih0, ih1⟩ := berthingref01_Join.mono_l k
 unfold berthingref01_Join.f
 repeat' first
   | (with_reducible exact ih0 _ _ _)
   | (with_reducible exact ih1 _ _ _ _ _ _ _ _)
   | (with_reducible exact LeO.refl _)
   | (with_reducible exact LeO.none _)
   | (with_reducible refine LeO.ite ?_ ?_)
   | (with_reducible refine LeO.bind ?_ (fun _ => ?_))
   | exact ih0 _ _ _
   | exact ih1 _ _ _ _ _ _ _ _
   | exact LeO.none _
   | refine LeO.ite ?_ ?_
   | refine LeO.bind ?_ (fun _ => ?_)
set_option maxHeartbeats 8000000 in
set_option maxRecDepth 100000 in
theorem berthingref01_Join.calls (k : Nat) (A0 : Option Addr) (c0 : Nat) (l0 : List (S55)) (r : List (S55)) (w : World) (hr0 : Kd.C k55 w A0 l0.length l0) (hc0 : l0.length ≤ c0) (h : berthingref01_Join.f k l0 = some r) :
  Calls Try.prog 49 #[.slice A0 l0.length c0] w fun e w' => ∃ v0_ : Value, e = .returned (v0_) ∧ Kd.R k55 55 w' w.heap.size (fun _ => True) v0_ r ∧ Below w.heap.size w w' := by
 have hu55 := Try.underlying55
 have HR0 := Aside0.mk hr0
 have HC0 := Aside0.mk hc0
 clear hr0 hc0
 have HB := Aside0.mk (Below.refl w.heap.size w)
 have H : (berthingref01_Join.l0 k l0 ([] : List (S55)) 0) = some r := h
 clear h
 have H' := Aside0.mk H
 clear H
 go_enter Try.func49, Try.ntmps49
 go_wp2
 go_loopg [3, 4] k (fun kq v3 v4 w' => ∃ (x3_1 : List (S55)) (x4_1 : Int), v4 = .int .i64 x4_1 ∧ Aside0 (berthingref01_Join.l0 kq l0 x3_1 x4_1 = some r) ∧ Aside0 (kq ≤ k) ∧ Aside0 (Kd.R k55 55 w' w.heap.size (fun _ => True) v3 x3_1) ∧ Aside0 (Below w.heap.size w w'))
 case atStart => exact ⟨(([] : List (S55))), (0), (by first | rfl | (simp; done) | (simp [*]; done)), H', ⟨Nat.le_refl _⟩, ⟨by first | exact Kd.R_nil _ _ _ _ _ | exact Kd.N_nil _ _ _ _ _ | exact Kd.V_nil _ _ _ _ _ | exact Kd.Q_nil _ _ _ _ _ | exact Kd.S_nil _ _ _ _ _⟩, ⟨by repeat (first | (with_reducible first | exact HB.out | apply bA | apply bN | apply bD) | exact HB.out)⟩⟩
 case round =>
  clear H'
  obtain ⟨x3_1, x4_1, rfl, HA, HK1, HO_3, HB⟩ := hrel
  cases gk with
  | zero => exact absurd HA.out (by simp [berthingref01_Join.l0])
  | succ k1 =>
   have H := HA.out
   clear HA
   simp only [berthingref01_Join.l0] at H
   by_cases c2 : x4_1 < (l0.length : Int)
   ·rw [if_pos c2] at H
    have c2b0 : decide (x4_1 < (l0.length : Int)) = true := decide_eq_true c2
    clear c2
    by_cases c3 : 0 ≤ x4_1
    ·rw [if_pos c3] at H
     have c3b0 : decide (0 ≤ x4_1) = true := decide_eq_true c3
     clear c3
     replace H := Option.bind_eq_some_iff.mp H
     obtain ⟨⟨t182, t183⟩, A40, H⟩ := H
     replace H : (if t182 = t183 then (berthingref01_Join.l0 k1 l0 x3_1 (wrap64 (x4_1 + 1))) else (berthingref01_Join.l1 k1 l0 x3_1 x4_1 ([] : List (S55)) false 0 t182 t183)) = some r := H
     have A4 := Aside0.mk A40
     clear A40
     by_cases c5 : t182 = t183
     ·rw [if_pos c5] at H
      have c5b0 : (t182 == t183) = true := beq_iff_eq.mpr c5
      have c5b1 : (t182 != t183) = false := bne_eq_false_iff_eq.mpr c5
      clear c5
      have H' := Aside0.mk H
      clear H
      have p181 : 0 ≤ (x4_1 : Int) := of_decide_eq_true (by first | (with_reducible assumption) | assumption)
      have q181 : x4_1 < (l0.length : Int) := of_decide_eq_true (by first | (with_reducible assumption) | assumption)
      obtain ⟨ad181, e181, hx181_0, hx181_1⟩ := at_T55 HR0.out x4_1 p181 q181
      cases e181
      replace hx181_0 := (HB.out.cell (World.block_lt_of_cell? w _ hx181_0)).trans hx181_0
      replace hx181_1 := (HB.out.cell (World.block_lt_of_cell? w _ hx181_1)).trans hx181_1
      replace p181 := eq_true p181
      replace q181 := eq_true q181
      go_wp2_with (first | ((with_reducible refine gate_callee (f := 50) rfl ?_); refine goesL_ (some 20) rfl rfl Try.func50 (by kernel_rfl) rfl #[.agg #[.int .i64 ((rd_T55 l0 x4_1).f0), .int .i64 ((rd_T55 l0 x4_1).f1)]] rfl (by (try simp only [List.map_toArray, List.map_cons, List.map_nil]); first | done | rfl | (simp only [List.length_drop, List.length_take]; rfl)) ?_; (with_reducible refine (berthingref01_Span_Clean.calls ((rd_T55 l0 x4_1).f0) ((rd_T55 l0 x4_1).f1) t182 t183 _ A4.out).mono ?_); rintro e w6 ⟨rfl, hb⟩; refine ⟨_, rfl, ?_⟩; have n0_ := Aside0.mk (Kd.R_below (by (with_reducible repeat (first | apply rA | apply rN | apply rD)); exact HO_3.out) hb); have n1_ := Aside0.mk (below_step (by repeat (first | (with_reducible first | exact HB.out | apply bA | apply bN | apply bD) | exact HB.out)) hb); clear HO_3; clear HB; have HO_3 := n0_; have HB := n1_; clear n0_ n1_; (try clear hb); (try clear hb2); (try clear hk); (try clear hi)) | ((with_reducible refine gate_dst (N := 5) rfl ?_); refine box_event ?hg (N := 5) ?hd (cs := #[.int .i64 0, .int .i64 0]) (t := 55) ?hr ?_; (case hd => rfl); (case hg => rfl); (case hr => first | (go_simp; done) | (go_simp; rfl)); intro gb184 hg w7 hbox hb; have n0_ := Aside0.mk (Kd.R_below (Kd.R_elderB (by (with_reducible repeat (first | apply rA | apply rN | apply rD)); exact HO_3.out) gb184 (Nat.le_of_eq hg.symm)) hb); have n1_ := Aside0.mk (below_step (by repeat (first | (with_reducible first | exact HB.out | apply bA | apply bN | apply bD) | exact HB.out)) hb); have n2_ := Aside0.mk (hbox); have n3_ := Aside0.mk ((by rw [hg]; exact (below_size (by repeat (first | (with_reducible first | exact HB.out | apply bA | apply bN | apply bD) | exact HB.out))) : w.heap.size ≤ gb184)); have n4_ := Aside0.mk ((by rw [hg]; exact (below_size (by repeat (first | (with_reducible first | exact HB.out | apply bA | apply bN | apply bD) | exact HB.out))) : w.heap.size ≤ gb184)); clear HO_3; clear HB; have HO_3 := n0_; have HB := n1_; have BK184 := n2_; have GW184 := n3_; have GE184 := n4_; clear n0_ n1_ n2_ n3_ n4_; clear hb hbox hg; have hcz8_0 : w7.cell? ⟨gb184, 0, none⟩ = some (.int .i64 0) := (blk_cell BK184.out 0).trans rfl; have hcz8_1 : w7.cell? ⟨gb184, 1, none⟩ = some (.int .i64 0) := (blk_cell BK184.out 1).trans rfl; have hfz8_0 := blk_frozen BK184.out 0; have hfz8_1 := blk_frozen BK184.out 1))
      go_roundg k1
      case measure => have := HK1.out; omega
      case rel => exact ⟨(x3_1), (wrap64 (x4_1 + 1)), (by first | rfl | (simp; done) | (simp [*]; done)), H', ⟨by have := HK1.out; omega⟩, ⟨by (with_reducible repeat (first | apply rA | apply rN | apply rD)); exact Kd.R_mono (Kd.R_far (p := ⟨gb184, 1, none⟩) (Kd.R_far (p := ⟨gb184, 0, none⟩) (Kd.R_mono HO_3.out (fun k_ hk => (⟨hk, hk.2⟩ : _ ∧ k_ ≠ gb184))) (fun _ hk => hk.2) (.int .i64 t182)) (fun _ hk => hk.2) (.int .i64 t183)) (fun _ hk => trivial)⟩, ⟨by repeat (first | (with_reducible first | exact HB.out | apply bA | apply bN | apply bD | refine bS ?_ GE184.out) | exact HB.out)⟩⟩
     ·rw [if_neg c5] at H
      have c5b0 : (t182 == t183) = false := beq_eq_false_iff_ne.mpr c5
      have c5b1 : (t182 != t183) = true := bne_iff_ne.mpr c5
      have H' := Aside0.mk H
      clear H
      have p181 : 0 ≤ (x4_1 : Int) := of_decide_eq_true (by first | (with_reducible assumption) | assumption)
      have q181 : x4_1 < (l0.length : Int) := of_decide_eq_true (by first | (with_reducible assumption) | assumption)
      obtain ⟨ad181, e181, hx181_0, hx181_1⟩ := at_T55 HR0.out x4_1 p181 q181
      cases e181
      replace hx181_0 := (HB.out.cell (World.block_lt_of_cell? w _ hx181_0)).trans hx181_0
      replace hx181_1 := (HB.out.cell (World.block_lt_of_cell? w _ hx181_1)).trans hx181_1
      replace p181 := eq_true p181
      replace q181 := eq_true q181
      go_wp2_with (first | ((with_reducible refine gate_callee (f := 50) rfl ?_); refine goesL_ (some 20) rfl rfl Try.func50 (by kernel_rfl) rfl #[.agg #[.int .i64 ((rd_T55 l0 x4_1).f0), .int .i64 ((rd_T55 l0 x4_1).f1)]] rfl (by (try simp only [List.map_toArray, List.map_cons, List.map_nil]); first | done | rfl | (simp only [List.length_drop, List.length_take]; rfl)) ?_; (with_reducible refine (berthingref01_Span_Clean.calls ((rd_T55 l0 x4_1).f0) ((rd_T55 l0 x4_1).f1) t182 t183 _ A4.out).mono ?_); rintro e w9 ⟨rfl, hb⟩; refine ⟨_, rfl, ?_⟩; have n0_ := Aside0.mk (Kd.R_below (by (with_reducible repeat (first | apply rA | apply rN | apply rD)); exact HO_3.out) hb); have n1_ := Aside0.mk (below_step (by repeat (first | (with_reducible first | exact HB.out | apply bA | apply bN | apply bD) | exact HB.out)) hb); clear HO_3; clear HB; have HO_3 := n0_; have HB := n1_; clear n0_ n1_; (try clear hb); (try clear hb2); (try clear hk); (try clear hi)) | ((with_reducible refine gate_dst (N := 5) rfl ?_); refine box_event ?hg (N := 5) ?hd (cs := #[.int .i64 0, .int .i64 0]) (t := 55) ?hr ?_; (case hd => rfl); (case hg => rfl); (case hr => first | (go_simp; done) | (go_simp; rfl)); intro gb184 hg w10 hbox hb; have n0_ := Aside0.mk (Kd.R_below (Kd.R_elderB (by (with_reducible repeat (first | apply rA | apply rN | apply rD)); exact HO_3.out) gb184 (Nat.le_of_eq hg.symm)) hb); have n1_ := Aside0.mk (below_step (by repeat (first | (with_reducible first | exact HB.out | apply bA | apply bN | apply bD) | exact HB.out)) hb); have n2_ := Aside0.mk (hbox); have n3_ := Aside0.mk ((by rw [hg]; exact (below_size (by repeat (first | (with_reducible first | exact HB.out | apply bA | apply bN | apply bD) | exact HB.out))) : w.heap.size ≤ gb184)); have n4_ := Aside0.mk ((by rw [hg]; exact (below_size (by repeat (first | (with_reducible first | exact HB.out | apply bA | apply bN | apply bD) | exact HB.out))) : w.heap.size ≤ gb184)); clear HO_3; clear HB; have HO_3 := n0_; have HB := n1_; have BK184 := n2_; have GW184 := n3_; have GE184 := n4_; clear n0_ n1_ n2_ n3_ n4_; clear hb hbox hg; have hcz11_0 : w10.cell? ⟨gb184, 0, none⟩ = some (.int .i64 0) := (blk_cell BK184.out 0).trans rfl; have hcz11_1 : w10.cell? ⟨gb184, 1, none⟩ = some (.int .i64 0) := (blk_cell BK184.out 1).trans rfl; have hfz11_0 := blk_frozen BK184.out 0; have hfz11_1 := blk_frozen BK184.out 1))
      go_loopg [6, 7, 8] k1 (fun kq v6 v7 v8 w' => ∃ (x6_2 : List (S55)) (x7_2 : Bool) (x8_2 : Int) (x185000_2 : Int) (x185001_2 : Int), v7 = .bool x7_2 ∧ v8 = .int .i64 x8_2 ∧ Aside0 (berthingref01_Join.l1 kq l0 x3_1 x4_1 x6_2 x7_2 x8_2 x185000_2 x185001_2 = some r) ∧ Aside0 (kq ≤ k1) ∧ Aside0 (Kd.R k55 55 w' w.heap.size (fun k_ => some k_ ≠ (v6 : Value).ownBlock ∧ k_ ≠ gb184) u3 x3_1) ∧ Aside0 (Kd.R k55 55 w' w.heap.size (fun k_ => some k_ ≠ (u3 : Value).ownBlock ∧ k_ ≠ gb184) v6 x6_2) ∧ Aside0 (w'.heap[gb184]? = some (.cells #[.int .i64 x185000_2, .int .i64 x185001_2] 55 (0, 0))) ∧ Aside0 (Below w.heap.size w w'))
      case atStart => exact ⟨(([] : List (S55))), (false), (0), (t182), (t183), (by first | rfl | (simp; done) | (simp [*]; done)), (by first | rfl | (simp; done) | (simp [*]; done)), H', ⟨Nat.le_refl _⟩, ⟨by (with_reducible repeat (first | apply rA | apply rN | apply rD)); exact Kd.R_mono (Kd.R_far (p := ⟨gb184, 1, none⟩) (Kd.R_far (p := ⟨gb184, 0, none⟩) (Kd.R_mono HO_3.out (fun k_ hk => (⟨hk, hk.2⟩ : _ ∧ k_ ≠ gb184))) (fun _ hk => hk.2) (.int .i64 t182)) (fun _ hk => hk.2) (.int .i64 t183)) (fun _ hk => ⟨(by simp [Value.ownBlock]), hk.1.2⟩)⟩, ⟨by first | exact Kd.R_nil _ _ _ _ _ | exact Kd.N_nil _ _ _ _ _ | exact Kd.V_nil _ _ _ _ _ | exact Kd.Q_nil _ _ _ _ _ | exact Kd.S_nil _ _ _ _ _⟩, ⟨by (with_reducible repeat (first | apply kN | apply kD | apply kA)); refine blk_put (cs := #[.int .i64 t182, .int .i64 0]) ?_ 1 _ rfl; (with_reducible repeat (first | apply kN | apply kD | apply kA)); refine blk_put (cs := #[.int .i64 0, .int .i64 0]) ?_ 0 _ rfl; (with_reducible repeat (first | apply kN | apply kD | apply kA)); exact BK184.out⟩, ⟨by repeat (first | (with_reducible first | exact HB.out | apply bA | apply bN | apply bD | refine bS ?_ GE184.out) | exact HB.out)⟩⟩
      case round =>
       clear H'
       try clear p1
       try clear q1
       try clear hx1
       try clear c2
       try clear c2b0
       try clear p2
       try clear c3
       try clear c3b0
       try clear c4
       try clear c5
       try clear c5b0
       try clear c5b1
       try clear p6
       try clear hcz11_0
       try clear hcz11_1
       try clear hcz8_0
       try clear hcz8_1
       try clear hfz11_0
       try clear hfz11_1
       try clear hfz8_0
       try clear hfz8_1
       try clear hx181_0
       try clear hx181_1
       try clear p181
       try clear q181
       obtain ⟨x6_2, x7_2, x8_2, x185000_2, x185001_2, rfl, rfl, HA, HK2, HO_3, HO_6, BK184, HB⟩ := hrel
       cases gk with
       | zero => exact absurd HA.out (by simp [berthingref01_Join.l1])
       | succ k2 =>
        have H := HA.out
        clear HA
        simp only [berthingref01_Join.l1] at H
        by_cases c12 : x8_2 < (x3_1.length : Int)
        ·rw [if_pos c12] at H
         have c12b0 : decide (x8_2 < (x3_1.length : Int)) = true := decide_eq_true c12
         clear c12
         by_cases c13 : 0 ≤ x8_2
         ·rw [if_pos c13] at H
          have c13b0 : decide (0 ≤ x8_2) = true := decide_eq_true c13
          clear c13
          by_cases c14 : ((rd_T55 x3_1 x8_2).f1) < x185000_2
          ·rw [if_pos c14] at H
           have c14b0 : decide (((rd_T55 x3_1 x8_2).f1) < x185000_2) = true := decide_eq_true c14
           clear c14
           by_cases c15 : x6_2.length < 8796093022208
           ·rw [if_pos c15] at H
            have LMc15 := Aside0.mk c15
            clear c15
            obtain ⟨y190, hy190⟩ : ∃ y_ : List (S55), y_ = (x6_2 ++ [(⟨(rd_T55 x3_1 x8_2).f0, (rd_T55 x3_1 x8_2).f1⟩ : S55)]) := ⟨_, rfl⟩
            replace H : (berthingref01_Join.l1 k2 l0 x3_1 x4_1 y190 x7_2 (wrap64 (x8_2 + 1)) x185000_2 x185001_2) = some r := by first | (rw [hy190]; with_reducible exact H) | (have H2_ := (Option.bind_some _ _).symm.trans H; rw [hy190]; with_reducible exact H2_) | (have H2_ := (Option.bind_some _ _).symm.trans H; with_reducible exact H2_) | with_reducible exact H | (rw [hy190]; exact H) | exact H
            have Ny190 := Aside0.mk hy190
            clear hy190
            have H' := Aside0.mk H
            clear H
            obtain ⟨Ao16, co16, eo16⟩ := Kd.R_slice HO_3.out
            subst eo16
            have p188 : 0 ≤ (x8_2 : Int) := of_decide_eq_true (by first | (with_reducible assumption) | assumption)
            have q188 : x8_2 < (x3_1.length : Int) := of_decide_eq_true (by first | (with_reducible assumption) | assumption)
            obtain ⟨ad188, e188, hx188_0, hx188_1⟩ := at_T55 (Kd.R_reads' HO_3.out).2.2 x8_2 p188 q188
            cases e188
            replace p188 := eq_true p188
            replace q188 := eq_true q188
            go_wp2_with (first | ((with_reducible refine gate_dst (N := 9) rfl ?_); refine box_event ?hg (N := 9) ?hd (cs := #[.int .i64 0, .int .i64 0]) (t := 55) ?hr ?_; (case hd => rfl); (case hg => rfl); (case hr => first | (go_simp; done) | (go_simp; rfl)); intro gb189 hg w17 hbox hb; have n0_ := Aside0.mk (Kd.R_below (Kd.R_elderB (by (with_reducible repeat (first | apply rA | apply rN | apply rD)); exact HO_3.out) gb189 (Nat.le_of_eq hg.symm)) hb); have n1_ := Aside0.mk (Kd.R_below (Kd.R_elderB (by (with_reducible repeat (first | apply rA | apply rN | apply rD)); exact HO_6.out) gb189 (Nat.le_of_eq hg.symm)) hb); have n2_ := Aside0.mk (blk_below (g := gb184) (o := .cells #[.int .i64 x185000_2, .int .i64 x185001_2] 55 (0, 0)) (by (with_reducible repeat (first | apply kN | apply kD | apply kA)); exact BK184.out) hb); have n3_ := Aside0.mk (below_step (by repeat (first | (with_reducible first | exact HB.out | apply bA | apply bN | apply bD | refine bS ?_ GE184.out) | exact HB.out)) hb); have n4_ := Aside0.mk (hbox); have n5_ := Aside0.mk ((by rw [hg]; exact (below_size (by repeat (first | (with_reducible first | exact HB.out | apply bA | apply bN | apply bD | refine bS ?_ GE184.out) | exact HB.out))) : w.heap.size ≤ gb189)); have n6_ := Aside0.mk ((by rw [hg]; exact (below_size (by repeat (first | (with_reducible first | exact HB.out | apply bA | apply bN | apply bD | refine bS ?_ GE184.out) | exact HB.out))) : w.heap.size ≤ gb189)); have n7_ := Aside0.mk ((by rw [hg]; exact Nat.ne_of_lt (blk_lt (g := gb184) (o := .cells #[.int .i64 x185000_2, .int .i64 x185001_2] 55 (0, 0)) (by (with_reducible repeat (first | apply kN | apply kD | apply kA)); exact BK184.out)) : gb184 ≠ gb189)); have n8_ := Aside0.mk ((by rw [hg]; exact Nat.ne_of_gt (blk_lt (g := gb184) (o := .cells #[.int .i64 x185000_2, .int .i64 x185001_2] 55 (0, 0)) (by (with_reducible repeat (first | apply kN | apply kD | apply kA)); exact BK184.out)) : gb189 ≠ gb184)); clear HO_3; clear HO_6; clear BK184; clear HB; have HO_3 := n0_; have HO_6 := n1_; have BK184 := n2_; have HB := n3_; have BK189 := n4_; have GW189 := n5_; have GE189 := n6_; have NB184_189 := n7_; have NB189_184 := n8_; clear n0_ n1_ n2_ n3_ n4_ n5_ n6_ n7_ n8_; clear hb hbox hg; have hnb18 := NB189_184.out; have hnc18 := NB184_189.out; have hcz19_0 : w17.cell? ⟨gb189, 0, none⟩ = some (.int .i64 0) := (blk_cell BK189.out 0).trans rfl; have hcz19_1 : w17.cell? ⟨gb189, 1, none⟩ = some (.int .i64 0) := (blk_cell BK189.out 1).trans rfl; have hfz19_0 := blk_frozen BK189.out 0; have hfz19_1 := blk_frozen BK189.out 1; have hcz20_0 : w17.cell? ⟨gb184, 0, none⟩ = some (.int .i64 x185000_2) := (blk_cell BK184.out 0).trans rfl; have hcz20_1 : w17.cell? ⟨gb184, 1, none⟩ = some (.int .i64 x185001_2) := (blk_cell BK184.out 1).trans rfl; have hfz20_0 := blk_frozen BK184.out 0; have hfz20_1 := blk_frozen BK184.out 1) | ((with_reducible refine gate_builtin (b := .append) (xs := #[.tmp 41, .tmp 43]) rfl ?_); at_builtin; refine Kd.R_append k55 (w0 := w) w.heap.size rfl (.tmp 41) (.tmp 43) 52 55 (.agg #[(.int .i64 0), (.int .i64 0)]) 16 rfl Try.underlying52 info55 rfl (by decide) (by omega) u6 x6_2 (⟨(rd_T55 x3_1 x8_2).f0, (rd_T55 x3_1 x8_2).f1⟩ : S55) [.int .i64 ((rd_T55 x3_1 x8_2).f0), .int .i64 ((rd_T55 x3_1 x8_2).f1)] (fun k_ => some k_ ≠ (.slice (some ad188) x3_1.length co16 : Value).ownBlock ∧ k_ ≠ gb184 ∧ k_ ≠ gb189) (fun _ => False) rfl (by first | (go_simp; done) | (go_simp; rfl)) ?aP (fun _ hk => hk.elim) ?aF ?aO ?aB ?aS ?aL ?_; (case aP => exact k55_mkM _ _ _ (⟨(rd_T55 x3_1 x8_2).f0, (rd_T55 x3_1 x8_2).f1⟩ : S55)); (case aB => exact (by repeat (first | (with_reducible first | exact HB.out | apply bA | apply bN | apply bD | refine bS ?_ GE184.out | refine bS ?_ GE189.out) | exact HB.out))); (case aF => exact (fun k_ hk => ⟨Kd.fresh' (Kd.R_lt (by (with_reducible repeat (first | apply rA | apply rN | apply rD)); exact (Kd.R_mono (Kd.R_far (p := ⟨gb189, 1, none⟩) (Kd.R_far (p := ⟨gb189, 0, none⟩) (Kd.R_mono HO_3.out (fun k_ hk => (⟨hk, hk.2⟩ : _ ∧ k_ ≠ gb189))) (fun _ hk => hk.2) (.int .i64 ((rd_T55 x3_1 x8_2).f0))) (fun _ hk => hk.2) (.int .i64 ((rd_T55 x3_1 x8_2).f1))) (fun _ h_ => h_.1)))) k_ hk, Kd.freshB (g := gb184) (o := .cells #[.int .i64 x185000_2, .int .i64 x185001_2] 55 (0, 0)) (by (with_reducible repeat (first | apply kN | apply kD | apply kA)); refine blk_far ?_ NB184_189.out _; (with_reducible repeat (first | apply kN | apply kD | apply kA)); refine blk_far ?_ NB184_189.out _; (with_reducible repeat (first | apply kN | apply kD | apply kA)); exact BK184.out) k_ hk, Kd.freshB (g := gb189) (o := .cells #[.int .i64 ((rd_T55 x3_1 x8_2).f0), .int .i64 ((rd_T55 x3_1 x8_2).f1)] 55 (0, 0)) (by (with_reducible repeat (first | apply kN | apply kD | apply kA)); refine blk_put (cs := #[.int .i64 ((rd_T55 x3_1 x8_2).f0), .int .i64 0]) ?_ 1 _ rfl; (with_reducible repeat (first | apply kN | apply kD | apply kA)); refine blk_put (cs := #[.int .i64 0, .int .i64 0]) ?_ 0 _ rfl; (with_reducible repeat (first | apply kN | apply kD | apply kA)); exact BK189.out) k_ hk⟩)); (case aO => exact (by (with_reducible repeat (first | apply rA | apply rN | apply rD)); exact Kd.R_mono (Kd.R_far (p := ⟨gb189, 1, none⟩) (Kd.R_far (p := ⟨gb189, 0, none⟩) (Kd.R_mono HO_6.out (fun k_ hk => (⟨hk, hk.2⟩ : _ ∧ k_ ≠ gb189))) (fun _ hk => hk.2) (.int .i64 ((rd_T55 x3_1 x8_2).f0))) (fun _ hk => hk.2) (.int .i64 ((rd_T55 x3_1 x8_2).f1))) (fun _ hk => ⟨hk.1.1.1, ⟨hk.1.1.2, hk.1.2⟩⟩))); (case aS => exact (below_size (by repeat (first | (with_reducible first | exact HB.out | apply bA | apply bN | apply bD | refine bS ?_ GE184.out | refine bS ?_ GE189.out) | exact HB.out)))); (case aL => have := LMc15.out; omega); intro v191 w21 ho hb hg hat; rw [← Ny190.out] at ho; have n0_ := Aside0.mk (Kd.R_after (ok := (fun k_ => k_ ≠ gb184 ∧ k_ ≠ gb189)) (by (with_reducible repeat (first | apply rA | apply rN | apply rD)); exact Kd.R_mono (Kd.R_far (p := ⟨gb189, 1, none⟩) (Kd.R_far (p := ⟨gb189, 0, none⟩) (Kd.R_mono HO_3.out (fun k_ hk => (⟨hk, hk.2⟩ : _ ∧ k_ ≠ gb189))) (fun _ hk => hk.2) (.int .i64 ((rd_T55 x3_1 x8_2).f0))) (fun _ hk => hk.2) (.int .i64 ((rd_T55 x3_1 x8_2).f1))) (fun _ hk => ⟨⟨hk.1.1.2, hk.1.2⟩, hk.1.1.1⟩)) hg hat); have n1_ := Aside0.mk (blk_grown (g := gb184) (o := .cells #[.int .i64 x185000_2, .int .i64 x185001_2] 55 (0, 0)) (by (with_reducible repeat (first | apply kN | apply kD | apply kA)); refine blk_far ?_ NB184_189.out _; (with_reducible repeat (first | apply kN | apply kD | apply kA)); refine blk_far ?_ NB184_189.out _; (with_reducible repeat (first | apply kN | apply kD | apply kA)); exact BK184.out) hg (Kd.R_away HO_6.out (fun _ hk => hk.1.2))); have n2_ := Aside0.mk (blk_grown (g := gb189) (o := .cells #[.int .i64 ((rd_T55 x3_1 x8_2).f0), .int .i64 ((rd_T55 x3_1 x8_2).f1)] 55 (0, 0)) (by (with_reducible repeat (first | apply kN | apply kD | apply kA)); refine blk_put (cs := #[.int .i64 ((rd_T55 x3_1 x8_2).f0), .int .i64 0]) ?_ 1 _ rfl; (with_reducible repeat (first | apply kN | apply kD | apply kA)); refine blk_put (cs := #[.int .i64 0, .int .i64 0]) ?_ 0 _ rfl; (with_reducible repeat (first | apply kN | apply kD | apply kA)); exact BK189.out) hg (Kd.R_away HO_6.out (fun _ hk => hk.2))); have n3_ := Aside0.mk (hb); have n4_ := Aside0.mk (ho); clear HO_3; clear BK184; clear BK189; clear HB; clear HO_6; have HO_3 := n0_; have BK184 := n1_; have BK189 := n2_; have HB := n3_; have HO192 := n4_; clear n0_ n1_ n2_ n3_ n4_; clear ho hb hg hat))
            go_roundg k2
            case measure => have := HK1.out; have := HK2.out; omega
            case rel => exact ⟨(y190), (x7_2), (wrap64 (x8_2 + 1)), (x185000_2), (x185001_2), (by first | rfl | (simp; done) | (simp [*]; done)), (by first | rfl | (simp; done) | (simp [*]; done)), H', ⟨by have := HK1.out; have := HK2.out; omega⟩, ⟨by (with_reducible repeat (first | apply rA | apply rN | apply rD)); exact Kd.R_mono HO_3.out (fun _ hk => ⟨hk.2, hk.1.1⟩)⟩, ⟨by (with_reducible repeat (first | apply rA | apply rN | apply rD)); exact Kd.R_mono HO192.out (fun _ hk => ⟨hk.1, hk.2.1⟩)⟩, ⟨by (with_reducible repeat (first | apply kN | apply kD | apply kA)); exact BK184.out⟩, ⟨by repeat (first | (with_reducible first | exact HB.out | apply bA | apply bN | apply bD | refine bS ?_ GE184.out | refine bS ?_ GE189.out) | exact HB.out)⟩⟩
           ·rw [if_neg c15] at H
            exact absurd H (by simp)
          ·rw [if_neg c14] at H
           have c14b0 : decide (((rd_T55 x3_1 x8_2).f1) < x185000_2) = false := decide_eq_false c14
           clear c14
           by_cases c22 : ((rd_T55 x3_1 x8_2).f0) > x185001_2
           ·rw [if_pos c22] at H
            have c22b0 : decide (x185001_2 < ((rd_T55 x3_1 x8_2).f0)) = true := decide_eq_true c22
            clear c22
            by_cases c23 : x7_2 = true
            ·subst c23
             have H1 : (if x6_2.length < 8796093022208 then (berthingref01_Join.l1 k2 l0 x3_1 x4_1 (x6_2 ++ [(⟨(rd_T55 x3_1 x8_2).f0, (rd_T55 x3_1 x8_2).f1⟩ : S55)]) true (wrap64 (x8_2 + 1)) x185000_2 x185001_2) else (none)) = some r := by rw [if_pos rfl] at H; exact H
             clear H
             have H := H1
             clear H1
             by_cases c24 : x6_2.length < 8796093022208
             ·rw [if_pos c24] at H
              have LMc24 := Aside0.mk c24
              clear c24
              obtain ⟨y193, hy193⟩ : ∃ y_ : List (S55), y_ = (x6_2 ++ [(⟨(rd_T55 x3_1 x8_2).f0, (rd_T55 x3_1 x8_2).f1⟩ : S55)]) := ⟨_, rfl⟩
              replace H : (berthingref01_Join.l1 k2 l0 x3_1 x4_1 y193 true (wrap64 (x8_2 + 1)) x185000_2 x185001_2) = some r := by first | (rw [hy193]; with_reducible exact H) | (have H2_ := (Option.bind_some _ _).symm.trans H; rw [hy193]; with_reducible exact H2_) | (have H2_ := (Option.bind_some _ _).symm.trans H; with_reducible exact H2_) | with_reducible exact H | (rw [hy193]; exact H) | exact H
              have Ny193 := Aside0.mk hy193
              clear hy193
              have H' := Aside0.mk H
              clear H
              obtain ⟨Ao25, co25, eo25⟩ := Kd.R_slice HO_3.out
              subst eo25
              have p188 : 0 ≤ (x8_2 : Int) := of_decide_eq_true (by first | (with_reducible assumption) | assumption)
              have q188 : x8_2 < (x3_1.length : Int) := of_decide_eq_true (by first | (with_reducible assumption) | assumption)
              obtain ⟨ad188, e188, hx188_0, hx188_1⟩ := at_T55 (Kd.R_reads' HO_3.out).2.2 x8_2 p188 q188
              cases e188
              replace p188 := eq_true p188
              replace q188 := eq_true q188
              go_wp2_with (first | ((with_reducible refine gate_dst (N := 9) rfl ?_); refine box_event ?hg (N := 9) ?hd (cs := #[.int .i64 0, .int .i64 0]) (t := 55) ?hr ?_; (case hd => rfl); (case hg => rfl); (case hr => first | (go_simp; done) | (go_simp; rfl)); intro gb189 hg w26 hbox hb; have n0_ := Aside0.mk (Kd.R_below (Kd.R_elderB (by (with_reducible repeat (first | apply rA | apply rN | apply rD)); exact HO_3.out) gb189 (Nat.le_of_eq hg.symm)) hb); have n1_ := Aside0.mk (Kd.R_below (Kd.R_elderB (by (with_reducible repeat (first | apply rA | apply rN | apply rD)); exact HO_6.out) gb189 (Nat.le_of_eq hg.symm)) hb); have n2_ := Aside0.mk (blk_below (g := gb184) (o := .cells #[.int .i64 x185000_2, .int .i64 x185001_2] 55 (0, 0)) (by (with_reducible repeat (first | apply kN | apply kD | apply kA)); exact BK184.out) hb); have n3_ := Aside0.mk (below_step (by repeat (first | (with_reducible first | exact HB.out | apply bA | apply bN | apply bD | refine bS ?_ GE184.out) | exact HB.out)) hb); have n4_ := Aside0.mk (hbox); have n5_ := Aside0.mk ((by rw [hg]; exact (below_size (by repeat (first | (with_reducible first | exact HB.out | apply bA | apply bN | apply bD | refine bS ?_ GE184.out) | exact HB.out))) : w.heap.size ≤ gb189)); have n6_ := Aside0.mk ((by rw [hg]; exact (below_size (by repeat (first | (with_reducible first | exact HB.out | apply bA | apply bN | apply bD | refine bS ?_ GE184.out) | exact HB.out))) : w.heap.size ≤ gb189)); have n7_ := Aside0.mk ((by rw [hg]; exact Nat.ne_of_lt (blk_lt (g := gb184) (o := .cells #[.int .i64 x185000_2, .int .i64 x185001_2] 55 (0, 0)) (by (with_reducible repeat (first | apply kN | apply kD | apply kA)); exact BK184.out)) : gb184 ≠ gb189)); have n8_ := Aside0.mk ((by rw [hg]; exact Nat.ne_of_gt (blk_lt (g := gb184) (o := .cells #[.int .i64 x185000_2, .int .i64 x185001_2] 55 (0, 0)) (by (with_reducible repeat (first | apply kN | apply kD | apply kA)); exact BK184.out)) : gb189 ≠ gb184)); clear HO_3; clear HO_6; clear BK184; clear HB; have HO_3 := n0_; have HO_6 := n1_; have BK184 := n2_; have HB := n3_; have BK189 := n4_; have GW189 := n5_; have GE189 := n6_; have NB184_189 := n7_; have NB189_184 := n8_; clear n0_ n1_ n2_ n3_ n4_ n5_ n6_ n7_ n8_; clear hb hbox hg; have hnb27 := NB189_184.out; have hnc27 := NB184_189.out; have hcz28_0 : w26.cell? ⟨gb189, 0, none⟩ = some (.int .i64 0) := (blk_cell BK189.out 0).trans rfl; have hcz28_1 : w26.cell? ⟨gb189, 1, none⟩ = some (.int .i64 0) := (blk_cell BK189.out 1).trans rfl; have hfz28_0 := blk_frozen BK189.out 0; have hfz28_1 := blk_frozen BK189.out 1; have hcz29_0 : w26.cell? ⟨gb184, 0, none⟩ = some (.int .i64 x185000_2) := (blk_cell BK184.out 0).trans rfl; have hcz29_1 : w26.cell? ⟨gb184, 1, none⟩ = some (.int .i64 x185001_2) := (blk_cell BK184.out 1).trans rfl; have hfz29_0 := blk_frozen BK184.out 0; have hfz29_1 := blk_frozen BK184.out 1) | ((with_reducible refine gate_builtin (b := .append) (xs := #[.tmp 56, .tmp 58]) rfl ?_); at_builtin; refine Kd.R_append k55 (w0 := w) w.heap.size rfl (.tmp 56) (.tmp 58) 52 55 (.agg #[(.int .i64 0), (.int .i64 0)]) 16 rfl Try.underlying52 info55 rfl (by decide) (by omega) u6 x6_2 (⟨(rd_T55 x3_1 x8_2).f0, (rd_T55 x3_1 x8_2).f1⟩ : S55) [.int .i64 ((rd_T55 x3_1 x8_2).f0), .int .i64 ((rd_T55 x3_1 x8_2).f1)] (fun k_ => some k_ ≠ (.slice (some ad188) x3_1.length co25 : Value).ownBlock ∧ k_ ≠ gb184 ∧ k_ ≠ gb189) (fun _ => False) rfl (by first | (go_simp; done) | (go_simp; rfl)) ?aP (fun _ hk => hk.elim) ?aF ?aO ?aB ?aS ?aL ?_; (case aP => exact k55_mkM _ _ _ (⟨(rd_T55 x3_1 x8_2).f0, (rd_T55 x3_1 x8_2).f1⟩ : S55)); (case aB => exact (by repeat (first | (with_reducible first | exact HB.out | apply bA | apply bN | apply bD | refine bS ?_ GE184.out | refine bS ?_ GE189.out) | exact HB.out))); (case aF => exact (fun k_ hk => ⟨Kd.fresh' (Kd.R_lt (by (with_reducible repeat (first | apply rA | apply rN | apply rD)); exact (Kd.R_mono (Kd.R_far (p := ⟨gb189, 1, none⟩) (Kd.R_far (p := ⟨gb189, 0, none⟩) (Kd.R_mono HO_3.out (fun k_ hk => (⟨hk, hk.2⟩ : _ ∧ k_ ≠ gb189))) (fun _ hk => hk.2) (.int .i64 ((rd_T55 x3_1 x8_2).f0))) (fun _ hk => hk.2) (.int .i64 ((rd_T55 x3_1 x8_2).f1))) (fun _ h_ => h_.1)))) k_ hk, Kd.freshB (g := gb184) (o := .cells #[.int .i64 x185000_2, .int .i64 x185001_2] 55 (0, 0)) (by (with_reducible repeat (first | apply kN | apply kD | apply kA)); refine blk_far ?_ NB184_189.out _; (with_reducible repeat (first | apply kN | apply kD | apply kA)); refine blk_far ?_ NB184_189.out _; (with_reducible repeat (first | apply kN | apply kD | apply kA)); exact BK184.out) k_ hk, Kd.freshB (g := gb189) (o := .cells #[.int .i64 ((rd_T55 x3_1 x8_2).f0), .int .i64 ((rd_T55 x3_1 x8_2).f1)] 55 (0, 0)) (by (with_reducible repeat (first | apply kN | apply kD | apply kA)); refine blk_put (cs := #[.int .i64 ((rd_T55 x3_1 x8_2).f0), .int .i64 0]) ?_ 1 _ rfl; (with_reducible repeat (first | apply kN | apply kD | apply kA)); refine blk_put (cs := #[.int .i64 0, .int .i64 0]) ?_ 0 _ rfl; (with_reducible repeat (first | apply kN | apply kD | apply kA)); exact BK189.out) k_ hk⟩)); (case aO => exact (by (with_reducible repeat (first | apply rA | apply rN | apply rD)); exact Kd.R_mono (Kd.R_far (p := ⟨gb189, 1, none⟩) (Kd.R_far (p := ⟨gb189, 0, none⟩) (Kd.R_mono HO_6.out (fun k_ hk => (⟨hk, hk.2⟩ : _ ∧ k_ ≠ gb189))) (fun _ hk => hk.2) (.int .i64 ((rd_T55 x3_1 x8_2).f0))) (fun _ hk => hk.2) (.int .i64 ((rd_T55 x3_1 x8_2).f1))) (fun _ hk => ⟨hk.1.1.1, ⟨hk.1.1.2, hk.1.2⟩⟩))); (case aS => exact (below_size (by repeat (first | (with_reducible first | exact HB.out | apply bA | apply bN | apply bD | refine bS ?_ GE184.out | refine bS ?_ GE189.out) | exact HB.out)))); (case aL => have := LMc24.out; omega); intro v194 w30 ho hb hg hat; rw [← Ny193.out] at ho; have n0_ := Aside0.mk (Kd.R_after (ok := (fun k_ => k_ ≠ gb184 ∧ k_ ≠ gb189)) (by (with_reducible repeat (first | apply rA | apply rN | apply rD)); exact Kd.R_mono (Kd.R_far (p := ⟨gb189, 1, none⟩) (Kd.R_far (p := ⟨gb189, 0, none⟩) (Kd.R_mono HO_3.out (fun k_ hk => (⟨hk, hk.2⟩ : _ ∧ k_ ≠ gb189))) (fun _ hk => hk.2) (.int .i64 ((rd_T55 x3_1 x8_2).f0))) (fun _ hk => hk.2) (.int .i64 ((rd_T55 x3_1 x8_2).f1))) (fun _ hk => ⟨⟨hk.1.1.2, hk.1.2⟩, hk.1.1.1⟩)) hg hat); have n1_ := Aside0.mk (blk_grown (g := gb184) (o := .cells #[.int .i64 x185000_2, .int .i64 x185001_2] 55 (0, 0)) (by (with_reducible repeat (first | apply kN | apply kD | apply kA)); refine blk_far ?_ NB184_189.out _; (with_reducible repeat (first | apply kN | apply kD | apply kA)); refine blk_far ?_ NB184_189.out _; (with_reducible repeat (first | apply kN | apply kD | apply kA)); exact BK184.out) hg (Kd.R_away HO_6.out (fun _ hk => hk.1.2))); have n2_ := Aside0.mk (blk_grown (g := gb189) (o := .cells #[.int .i64 ((rd_T55 x3_1 x8_2).f0), .int .i64 ((rd_T55 x3_1 x8_2).f1)] 55 (0, 0)) (by (with_reducible repeat (first | apply kN | apply kD | apply kA)); refine blk_put (cs := #[.int .i64 ((rd_T55 x3_1 x8_2).f0), .int .i64 0]) ?_ 1 _ rfl; (with_reducible repeat (first | apply kN | apply kD | apply kA)); refine blk_put (cs := #[.int .i64 0, .int .i64 0]) ?_ 0 _ rfl; (with_reducible repeat (first | apply kN | apply kD | apply kA)); exact BK189.out) hg (Kd.R_away HO_6.out (fun _ hk => hk.2))); have n3_ := Aside0.mk (hb); have n4_ := Aside0.mk (ho); clear HO_3; clear BK184; clear BK189; clear HB; clear HO_6; have HO_3 := n0_; have BK184 := n1_; have BK189 := n2_; have HB := n3_; have HO195 := n4_; clear n0_ n1_ n2_ n3_ n4_; clear ho hb hg hat))
              go_roundg k2
              case measure => have := HK1.out; have := HK2.out; omega
              case rel => exact ⟨(y193), (true), (wrap64 (x8_2 + 1)), (x185000_2), (x185001_2), (by first | rfl | (simp; done) | (simp [*]; done)), (by first | rfl | (simp; done) | (simp [*]; done)), H', ⟨by have := HK1.out; have := HK2.out; omega⟩, ⟨by (with_reducible repeat (first | apply rA | apply rN | apply rD)); exact Kd.R_mono HO_3.out (fun _ hk => ⟨hk.2, hk.1.1⟩)⟩, ⟨by (with_reducible repeat (first | apply rA | apply rN | apply rD)); exact Kd.R_mono HO195.out (fun _ hk => ⟨hk.1, hk.2.1⟩)⟩, ⟨by (with_reducible repeat (first | apply kN | apply kD | apply kA)); exact BK184.out⟩, ⟨by repeat (first | (with_reducible first | exact HB.out | apply bA | apply bN | apply bD | refine bS ?_ GE184.out | refine bS ?_ GE189.out) | exact HB.out)⟩⟩
             ·rw [if_neg c24] at H
              exact absurd H (by simp)
            ·replace c23 := Bool.eq_false_iff.mpr c23
             subst c23
             have H1 : (if x6_2.length < 8796093022208 then ((some (x6_2 ++ [(⟨x185000_2, x185001_2⟩ : S55)] : List (S55))).bind fun y196 => (if y196.length < 8796093022208 then (berthingref01_Join.l1 k2 l0 x3_1 x4_1 (y196 ++ [(⟨(rd_T55 x3_1 x8_2).f0, (rd_T55 x3_1 x8_2).f1⟩ : S55)]) true (wrap64 (x8_2 + 1)) x185000_2 x185001_2) else (none))) else (none)) = some r := by rw [if_neg (show ¬ (false = true) by decide)] at H; exact H
             clear H
             have H := H1
             clear H1
             by_cases c31 : x6_2.length < 8796093022208
             ·rw [if_pos c31] at H
              have LMc31 := Aside0.mk c31
              clear c31
              obtain ⟨y196, hy196⟩ : ∃ y_ : List (S55), y_ = (x6_2 ++ [(⟨x185000_2, x185001_2⟩ : S55)]) := ⟨_, rfl⟩
              replace H : (if y196.length < 8796093022208 then (berthingref01_Join.l1 k2 l0 x3_1 x4_1 (y196 ++ [(⟨(rd_T55 x3_1 x8_2).f0, (rd_T55 x3_1 x8_2).f1⟩ : S55)]) true (wrap64 (x8_2 + 1)) x185000_2 x185001_2) else (none)) = some r := by first | (rw [hy196]; with_reducible exact H) | (have H2_ := (Option.bind_some _ _).symm.trans H; rw [hy196]; with_reducible exact H2_) | (have H2_ := (Option.bind_some _ _).symm.trans H; with_reducible exact H2_) | with_reducible exact H | (rw [hy196]; exact H) | exact H
              have Ny196 := Aside0.mk hy196
              clear hy196
              by_cases c32 : y196.length < 8796093022208
              ·rw [if_pos c32] at H
               have LMc32 := Aside0.mk c32
               clear c32
               obtain ⟨y199, hy199⟩ : ∃ y_ : List (S55), y_ = (y196 ++ [(⟨(rd_T55 x3_1 x8_2).f0, (rd_T55 x3_1 x8_2).f1⟩ : S55)]) := ⟨_, rfl⟩
               replace H : (berthingref01_Join.l1 k2 l0 x3_1 x4_1 y199 true (wrap64 (x8_2 + 1)) x185000_2 x185001_2) = some r := by first | (rw [hy199]; with_reducible exact H) | (have H2_ := (Option.bind_some _ _).symm.trans H; rw [hy199]; with_reducible exact H2_) | (have H2_ := (Option.bind_some _ _).symm.trans H; with_reducible exact H2_) | with_reducible exact H | (rw [hy199]; exact H) | exact H
               have Ny199 := Aside0.mk hy199
               clear hy199
               have H' := Aside0.mk H
               clear H
               obtain ⟨Ao33, co33, eo33⟩ := Kd.R_slice HO_3.out
               subst eo33
               have p188 : 0 ≤ (x8_2 : Int) := of_decide_eq_true (by first | (with_reducible assumption) | assumption)
               have q188 : x8_2 < (x3_1.length : Int) := of_decide_eq_true (by first | (with_reducible assumption) | assumption)
               obtain ⟨ad188, e188, hx188_0, hx188_1⟩ := at_T55 (Kd.R_reads' HO_3.out).2.2 x8_2 p188 q188
               cases e188
               replace p188 := eq_true p188
               replace q188 := eq_true q188
               go_wp2_with (first | ((with_reducible refine gate_dst (N := 9) rfl ?_); refine box_event ?hg (N := 9) ?hd (cs := #[.int .i64 0, .int .i64 0]) (t := 55) ?hr ?_; (case hd => rfl); (case hg => rfl); (case hr => first | (go_simp; done) | (go_simp; rfl)); intro gb189 hg w34 hbox hb; have n0_ := Aside0.mk (Kd.R_below (Kd.R_elderB (by (with_reducible repeat (first | apply rA | apply rN | apply rD)); exact HO_3.out) gb189 (Nat.le_of_eq hg.symm)) hb); have n1_ := Aside0.mk (Kd.R_below (Kd.R_elderB (by (with_reducible repeat (first | apply rA | apply rN | apply rD)); exact HO_6.out) gb189 (Nat.le_of_eq hg.symm)) hb); have n2_ := Aside0.mk (blk_below (g := gb184) (o := .cells #[.int .i64 x185000_2, .int .i64 x185001_2] 55 (0, 0)) (by (with_reducible repeat (first | apply kN | apply kD | apply kA)); exact BK184.out) hb); have n3_ := Aside0.mk (below_step (by repeat (first | (with_reducible first | exact HB.out | apply bA | apply bN | apply bD | refine bS ?_ GE184.out) | exact HB.out)) hb); have n4_ := Aside0.mk (hbox); have n5_ := Aside0.mk ((by rw [hg]; exact (below_size (by repeat (first | (with_reducible first | exact HB.out | apply bA | apply bN | apply bD | refine bS ?_ GE184.out) | exact HB.out))) : w.heap.size ≤ gb189)); have n6_ := Aside0.mk ((by rw [hg]; exact (below_size (by repeat (first | (with_reducible first | exact HB.out | apply bA | apply bN | apply bD | refine bS ?_ GE184.out) | exact HB.out))) : w.heap.size ≤ gb189)); have n7_ := Aside0.mk ((by rw [hg]; exact Nat.ne_of_lt (blk_lt (g := gb184) (o := .cells #[.int .i64 x185000_2, .int .i64 x185001_2] 55 (0, 0)) (by (with_reducible repeat (first | apply kN | apply kD | apply kA)); exact BK184.out)) : gb184 ≠ gb189)); have n8_ := Aside0.mk ((by rw [hg]; exact Nat.ne_of_gt (blk_lt (g := gb184) (o := .cells #[.int .i64 x185000_2, .int .i64 x185001_2] 55 (0, 0)) (by (with_reducible repeat (first | apply kN | apply kD | apply kA)); exact BK184.out)) : gb189 ≠ gb184)); clear HO_3; clear HO_6; clear BK184; clear HB; have HO_3 := n0_; have HO_6 := n1_; have BK184 := n2_; have HB := n3_; have BK189 := n4_; have GW189 := n5_; have GE189 := n6_; have NB184_189 := n7_; have NB189_184 := n8_; clear n0_ n1_ n2_ n3_ n4_ n5_ n6_ n7_ n8_; clear hb hbox hg; have hnb35 := NB189_184.out; have hnc35 := NB184_189.out; have hcz36_0 : w34.cell? ⟨gb189, 0, none⟩ = some (.int .i64 0) := (blk_cell BK189.out 0).trans rfl; have hcz36_1 : w34.cell? ⟨gb189, 1, none⟩ = some (.int .i64 0) := (blk_cell BK189.out 1).trans rfl; have hfz36_0 := blk_frozen BK189.out 0; have hfz36_1 := blk_frozen BK189.out 1; have hcz37_0 : w34.cell? ⟨gb184, 0, none⟩ = some (.int .i64 x185000_2) := (blk_cell BK184.out 0).trans rfl; have hcz37_1 : w34.cell? ⟨gb184, 1, none⟩ = some (.int .i64 x185001_2) := (blk_cell BK184.out 1).trans rfl; have hfz37_0 := blk_frozen BK184.out 0; have hfz37_1 := blk_frozen BK184.out 1) | ((with_reducible refine gate_builtin (b := .append) (xs := #[.tmp 52, .tmp 54]) rfl ?_); at_builtin; refine Kd.R_append k55 (w0 := w) w.heap.size rfl (.tmp 52) (.tmp 54) 52 55 (.agg #[(.int .i64 0), (.int .i64 0)]) 16 rfl Try.underlying52 info55 rfl (by decide) (by omega) u6 x6_2 (⟨x185000_2, x185001_2⟩ : S55) [.int .i64 x185000_2, .int .i64 x185001_2] (fun k_ => some k_ ≠ (.slice (some ad188) x3_1.length co33 : Value).ownBlock ∧ k_ ≠ gb184 ∧ k_ ≠ gb189) (fun _ => False) rfl (by first | (go_simp; done) | (go_simp; rfl)) ?aP (fun _ hk => hk.elim) ?aF ?aO ?aB ?aS ?aL ?_; (case aP => exact k55_mkM _ _ _ (⟨x185000_2, x185001_2⟩ : S55)); (case aB => exact (by repeat (first | (with_reducible first | exact HB.out | apply bA | apply bN | apply bD | refine bS ?_ GE184.out | refine bS ?_ GE189.out) | exact HB.out))); (case aF => exact (fun k_ hk => ⟨Kd.fresh' (Kd.R_lt (by (with_reducible repeat (first | apply rA | apply rN | apply rD)); exact (Kd.R_mono (Kd.R_far (p := ⟨gb189, 1, none⟩) (Kd.R_far (p := ⟨gb189, 0, none⟩) (Kd.R_mono HO_3.out (fun k_ hk => (⟨hk, hk.2⟩ : _ ∧ k_ ≠ gb189))) (fun _ hk => hk.2) (.int .i64 ((rd_T55 x3_1 x8_2).f0))) (fun _ hk => hk.2) (.int .i64 ((rd_T55 x3_1 x8_2).f1))) (fun _ h_ => h_.1)))) k_ hk, Kd.freshB (g := gb184) (o := .cells #[.int .i64 x185000_2, .int .i64 x185001_2] 55 (0, 0)) (by (with_reducible repeat (first | apply kN | apply kD | apply kA)); refine blk_far ?_ NB184_189.out _; (with_reducible repeat (first | apply kN | apply kD | apply kA)); refine blk_far ?_ NB184_189.out _; (with_reducible repeat (first | apply kN | apply kD | apply kA)); exact BK184.out) k_ hk, Kd.freshB (g := gb189) (o := .cells #[.int .i64 ((rd_T55 x3_1 x8_2).f0), .int .i64 ((rd_T55 x3_1 x8_2).f1)] 55 (0, 0)) (by (with_reducible repeat (first | apply kN | apply kD | apply kA)); refine blk_put (cs := #[.int .i64 ((rd_T55 x3_1 x8_2).f0), .int .i64 0]) ?_ 1 _ rfl; (with_reducible repeat (first | apply kN | apply kD | apply kA)); refine blk_put (cs := #[.int .i64 0, .int .i64 0]) ?_ 0 _ rfl; (with_reducible repeat (first | apply kN | apply kD | apply kA)); exact BK189.out) k_ hk⟩)); (case aO => exact (by (with_reducible repeat (first | apply rA | apply rN | apply rD)); exact Kd.R_mono (Kd.R_far (p := ⟨gb189, 1, none⟩) (Kd.R_far (p := ⟨gb189, 0, none⟩) (Kd.R_mono HO_6.out (fun k_ hk => (⟨hk, hk.2⟩ : _ ∧ k_ ≠ gb189))) (fun _ hk => hk.2) (.int .i64 ((rd_T55 x3_1 x8_2).f0))) (fun _ hk => hk.2) (.int .i64 ((rd_T55 x3_1 x8_2).f1))) (fun _ hk => ⟨hk.1.1.1, ⟨hk.1.1.2, hk.1.2⟩⟩))); (case aS => exact (below_size (by repeat (first | (with_reducible first | exact HB.out | apply bA | apply bN | apply bD | refine bS ?_ GE184.out | refine bS ?_ GE189.out) | exact HB.out)))); (case aL => have := LMc31.out; omega); intro v197 w38 ho hb hg hat; rw [← Ny196.out] at ho; have n0_ := Aside0.mk (Kd.R_after (ok := (fun k_ => k_ ≠ gb184 ∧ k_ ≠ gb189)) (by (with_reducible repeat (first | apply rA | apply rN | apply rD)); exact Kd.R_mono (Kd.R_far (p := ⟨gb189, 1, none⟩) (Kd.R_far (p := ⟨gb189, 0, none⟩) (Kd.R_mono HO_3.out (fun k_ hk => (⟨hk, hk.2⟩ : _ ∧ k_ ≠ gb189))) (fun _ hk => hk.2) (.int .i64 ((rd_T55 x3_1 x8_2).f0))) (fun _ hk => hk.2) (.int .i64 ((rd_T55 x3_1 x8_2).f1))) (fun _ hk => ⟨⟨hk.1.1.2, hk.1.2⟩, hk.1.1.1⟩)) hg hat); have n1_ := Aside0.mk (blk_grown (g := gb184) (o := .cells #[.int .i64 x185000_2, .int .i64 x185001_2] 55 (0, 0)) (by (with_reducible repeat (first | apply kN | apply kD | apply kA)); refine blk_far ?_ NB184_189.out _; (with_reducible repeat (first | apply kN | apply kD | apply kA)); refine blk_far ?_ NB184_189.out _; (with_reducible repeat (first | apply kN | apply kD | apply kA)); exact BK184.out) hg (Kd.R_away HO_6.out (fun _ hk => hk.1.2))); have n2_ := Aside0.mk (blk_grown (g := gb189) (o := .cells #[.int .i64 ((rd_T55 x3_1 x8_2).f0), .int .i64 ((rd_T55 x3_1 x8_2).f1)] 55 (0, 0)) (by (with_reducible repeat (first | apply kN | apply kD | apply kA)); refine blk_put (cs := #[.int .i64 ((rd_T55 x3_1 x8_2).f0), .int .i64 0]) ?_ 1 _ rfl; (with_reducible repeat (first | apply kN | apply kD | apply kA)); refine blk_put (cs := #[.int .i64 0, .int .i64 0]) ?_ 0 _ rfl; (with_reducible repeat (first | apply kN | apply kD | apply kA)); exact BK189.out) hg (Kd.R_away HO_6.out (fun _ hk => hk.2))); have n3_ := Aside0.mk (hb); have n4_ := Aside0.mk (ho); clear HO_3; clear BK184; clear BK189; clear HB; clear HO_6; have HO_3 := n0_; have BK184 := n1_; have BK189 := n2_; have HB := n3_; have HO198 := n4_; clear n0_ n1_ n2_ n3_ n4_; clear ho hb hg hat; have hcz39_0 : w38.cell? ⟨gb189, 0, none⟩ = some (.int .i64 ((rd_T55 x3_1 x8_2).f0)) := (blk_cell BK189.out 0).trans rfl; have hcz39_1 : w38.cell? ⟨gb189, 1, none⟩ = some (.int .i64 ((rd_T55 x3_1 x8_2).f1)) := (blk_cell BK189.out 1).trans rfl; have hfz39_0 := blk_frozen BK189.out 0; have hfz39_1 := blk_frozen BK189.out 1) | ((with_reducible refine gate_builtin (b := .append) (xs := #[.tmp 56, .tmp 58]) rfl ?_); at_builtin; refine Kd.R_append k55 (w0 := w) w.heap.size rfl (.tmp 56) (.tmp 58) 52 55 (.agg #[(.int .i64 0), (.int .i64 0)]) 16 rfl Try.underlying52 info55 rfl (by decide) (by omega) v197 y196 (⟨(rd_T55 x3_1 x8_2).f0, (rd_T55 x3_1 x8_2).f1⟩ : S55) [.int .i64 ((rd_T55 x3_1 x8_2).f0), .int .i64 ((rd_T55 x3_1 x8_2).f1)] (fun k_ => some k_ ≠ (.slice (some ad188) x3_1.length co33 : Value).ownBlock ∧ k_ ≠ gb184 ∧ k_ ≠ gb189) (fun _ => False) rfl rfl ?aP (fun _ hk => hk.elim) ?aF ?aO ?aB ?aS ?aL ?_; (case aP => exact k55_mkM _ _ _ (⟨(rd_T55 x3_1 x8_2).f0, (rd_T55 x3_1 x8_2).f1⟩ : S55)); (case aB => exact (by repeat (first | (with_reducible first | exact HB.out | apply bA | apply bN | apply bD | refine bS ?_ GE184.out | refine bS ?_ GE189.out) | exact HB.out))); (case aF => exact (fun k_ hk => ⟨Kd.fresh' (Kd.R_lt (by (with_reducible repeat (first | apply rA | apply rN | apply rD)); exact HO_3.out)) k_ hk, Kd.freshB (g := gb184) (o := .cells #[.int .i64 x185000_2, .int .i64 x185001_2] 55 (0, 0)) (by (with_reducible repeat (first | apply kN | apply kD | apply kA)); exact BK184.out) k_ hk, Kd.freshB (g := gb189) (o := .cells #[.int .i64 ((rd_T55 x3_1 x8_2).f0), .int .i64 ((rd_T55 x3_1 x8_2).f1)] 55 (0, 0)) (by (with_reducible repeat (first | apply kN | apply kD | apply kA)); exact BK189.out) k_ hk⟩)); (case aO => exact (by (with_reducible repeat (first | apply rA | apply rN | apply rD)); exact HO198.out)); (case aS => exact (below_size (by repeat (first | (with_reducible first | exact HB.out | apply bA | apply bN | apply bD | refine bS ?_ GE184.out | refine bS ?_ GE189.out) | exact HB.out)))); (case aL => have := LMc32.out; omega); intro v200 w40 ho hb hg hat; rw [← Ny199.out] at ho; have n0_ := Aside0.mk (Kd.R_after (ok := (fun k_ => k_ ≠ gb184 ∧ k_ ≠ gb189)) (by (with_reducible repeat (first | apply rA | apply rN | apply rD)); exact HO_3.out) hg hat); have n1_ := Aside0.mk (blk_grown (g := gb184) (o := .cells #[.int .i64 x185000_2, .int .i64 x185001_2] 55 (0, 0)) (by (with_reducible repeat (first | apply kN | apply kD | apply kA)); exact BK184.out) hg (Kd.R_away HO198.out (fun _ hk => hk.2.1))); have n2_ := Aside0.mk (blk_grown (g := gb189) (o := .cells #[.int .i64 ((rd_T55 x3_1 x8_2).f0), .int .i64 ((rd_T55 x3_1 x8_2).f1)] 55 (0, 0)) (by (with_reducible repeat (first | apply kN | apply kD | apply kA)); exact BK189.out) hg (Kd.R_away HO198.out (fun _ hk => hk.2.2))); have n3_ := Aside0.mk (hb); have n4_ := Aside0.mk (ho); clear HO_3; clear BK184; clear BK189; clear HB; clear HO198; have HO_3 := n0_; have BK184 := n1_; have BK189 := n2_; have HB := n3_; have HO201 := n4_; clear n0_ n1_ n2_ n3_ n4_; clear ho hb hg hat))
               go_roundg k2
               case measure => have := HK1.out; have := HK2.out; omega
               case rel => exact ⟨(y199), (true), (wrap64 (x8_2 + 1)), (x185000_2), (x185001_2), (by first | rfl | (simp; done) | (simp [*]; done)), (by first | rfl | (simp; done) | (simp [*]; done)), H', ⟨by have := HK1.out; have := HK2.out; omega⟩, ⟨by (with_reducible repeat (first | apply rA | apply rN | apply rD)); exact Kd.R_mono HO_3.out (fun _ hk => ⟨hk.2, hk.1.1⟩)⟩, ⟨by (with_reducible repeat (first | apply rA | apply rN | apply rD)); exact Kd.R_mono HO201.out (fun _ hk => ⟨hk.1, hk.2.1⟩)⟩, ⟨by (with_reducible repeat (first | apply kN | apply kD | apply kA)); exact BK184.out⟩, ⟨by repeat (first | (with_reducible first | exact HB.out | apply bA | apply bN | apply bD | refine bS ?_ GE184.out | refine bS ?_ GE189.out) | exact HB.out)⟩⟩
              ·rw [if_neg c32] at H
               exact absurd H (by simp)
             ·rw [if_neg c31] at H
              exact absurd H (by simp)
           ·rw [if_neg c22] at H
            have c22b0 : decide (x185001_2 < ((rd_T55 x3_1 x8_2).f0)) = false := decide_eq_false c22
            clear c22
            obtain ⟨ji41, hji41⟩ : ∃ j_ : Int, (mn x185000_2 ((rd_T55 x3_1 x8_2).f0)) = j_ := ⟨_, rfl⟩
            replace H : (berthingref01_Join.l1 k2 l0 x3_1 x4_1 x6_2 x7_2 (wrap64 (x8_2 + 1)) ji41 (mx x185001_2 ((rd_T55 x3_1 x8_2).f1))) = some r := by first | (rw [hji41] at H; exact H) | (simp only [hji41] at H ⊢; exact H)
            have hji41_ : (if ((rd_T55 x3_1 x8_2).f0) < x185000_2 then ((rd_T55 x3_1 x8_2).f0) else x185000_2) = ji41 := hji41
            obtain ⟨ji42, hji42⟩ : ∃ j_ : Int, (mx x185001_2 ((rd_T55 x3_1 x8_2).f1)) = j_ := ⟨_, rfl⟩
            replace H : (berthingref01_Join.l1 k2 l0 x3_1 x4_1 x6_2 x7_2 (wrap64 (x8_2 + 1)) ji41 ji42) = some r := by first | (rw [hji42] at H; exact H) | (simp only [hji42] at H ⊢; exact H)
            have hji42_ : (if x185001_2 < ((rd_T55 x3_1 x8_2).f1) then ((rd_T55 x3_1 x8_2).f1) else x185001_2) = ji42 := hji42
            have H' := Aside0.mk H
            clear H
            obtain ⟨Ao43, co43, eo43⟩ := Kd.R_slice HO_3.out
            subst eo43
            have p188 : 0 ≤ (x8_2 : Int) := of_decide_eq_true (by first | (with_reducible assumption) | assumption)
            have q188 : x8_2 < (x3_1.length : Int) := of_decide_eq_true (by first | (with_reducible assumption) | assumption)
            obtain ⟨ad188, e188, hx188_0, hx188_1⟩ := at_T55 (Kd.R_reads' HO_3.out).2.2 x8_2 p188 q188
            cases e188
            replace p188 := eq_true p188
            replace q188 := eq_true q188
            go_wp2_with (first | ((with_reducible refine gate_dst (N := 9) rfl ?_); refine box_event ?hg (N := 9) ?hd (cs := #[.int .i64 0, .int .i64 0]) (t := 55) ?hr ?_; (case hd => rfl); (case hg => rfl); (case hr => first | (go_simp; done) | (go_simp; rfl)); intro gb189 hg w44 hbox hb; have n0_ := Aside0.mk (Kd.R_below (Kd.R_elderB (by (with_reducible repeat (first | apply rA | apply rN | apply rD)); exact HO_3.out) gb189 (Nat.le_of_eq hg.symm)) hb); have n1_ := Aside0.mk (Kd.R_below (Kd.R_elderB (by (with_reducible repeat (first | apply rA | apply rN | apply rD)); exact HO_6.out) gb189 (Nat.le_of_eq hg.symm)) hb); have n2_ := Aside0.mk (blk_below (g := gb184) (o := .cells #[.int .i64 x185000_2, .int .i64 x185001_2] 55 (0, 0)) (by (with_reducible repeat (first | apply kN | apply kD | apply kA)); exact BK184.out) hb); have n3_ := Aside0.mk (below_step (by repeat (first | (with_reducible first | exact HB.out | apply bA | apply bN | apply bD | refine bS ?_ GE184.out) | exact HB.out)) hb); have n4_ := Aside0.mk (hbox); have n5_ := Aside0.mk ((by rw [hg]; exact (below_size (by repeat (first | (with_reducible first | exact HB.out | apply bA | apply bN | apply bD | refine bS ?_ GE184.out) | exact HB.out))) : w.heap.size ≤ gb189)); have n6_ := Aside0.mk ((by rw [hg]; exact (below_size (by repeat (first | (with_reducible first | exact HB.out | apply bA | apply bN | apply bD | refine bS ?_ GE184.out) | exact HB.out))) : w.heap.size ≤ gb189)); have n7_ := Aside0.mk ((by rw [hg]; exact Nat.ne_of_lt (blk_lt (g := gb184) (o := .cells #[.int .i64 x185000_2, .int .i64 x185001_2] 55 (0, 0)) (by (with_reducible repeat (first | apply kN | apply kD | apply kA)); exact BK184.out)) : gb184 ≠ gb189)); have n8_ := Aside0.mk ((by rw [hg]; exact Nat.ne_of_gt (blk_lt (g := gb184) (o := .cells #[.int .i64 x185000_2, .int .i64 x185001_2] 55 (0, 0)) (by (with_reducible repeat (first | apply kN | apply kD | apply kA)); exact BK184.out)) : gb189 ≠ gb184)); clear HO_3; clear HO_6; clear BK184; clear HB; have HO_3 := n0_; have HO_6 := n1_; have BK184 := n2_; have HB := n3_; have BK189 := n4_; have GW189 := n5_; have GE189 := n6_; have NB184_189 := n7_; have NB189_184 := n8_; clear n0_ n1_ n2_ n3_ n4_ n5_ n6_ n7_ n8_; clear hb hbox hg; have hnb45 := NB189_184.out; have hnc45 := NB184_189.out; have hcz46_0 : w44.cell? ⟨gb189, 0, none⟩ = some (.int .i64 0) := (blk_cell BK189.out 0).trans rfl; have hcz46_1 : w44.cell? ⟨gb189, 1, none⟩ = some (.int .i64 0) := (blk_cell BK189.out 1).trans rfl; have hfz46_0 := blk_frozen BK189.out 0; have hfz46_1 := blk_frozen BK189.out 1; have hcz47_0 : w44.cell? ⟨gb184, 0, none⟩ = some (.int .i64 x185000_2) := (blk_cell BK184.out 0).trans rfl; have hcz47_1 : w44.cell? ⟨gb184, 1, none⟩ = some (.int .i64 x185001_2) := (blk_cell BK184.out 1).trans rfl; have hfz47_0 := blk_frozen BK184.out 0; have hfz47_1 := blk_frozen BK184.out 1))
            go_roundg k2
            case measure => have := HK1.out; have := HK2.out; omega
            case rel => exact ⟨(x6_2), (x7_2), (wrap64 (x8_2 + 1)), (ji41), (ji42), (by first | rfl | (simp; done) | (simp [*]; done)), (by first | rfl | (simp; done) | (simp [*]; done)), H', ⟨by have := HK1.out; have := HK2.out; omega⟩, ⟨by (with_reducible repeat (first | apply rA | apply rN | apply rD)); exact Kd.R_mono (Kd.R_far (p := ⟨gb184, 1, none⟩) (Kd.R_far (p := ⟨gb184, 0, none⟩) (Kd.R_far (p := ⟨gb189, 1, none⟩) (Kd.R_far (p := ⟨gb189, 0, none⟩) (Kd.R_mono (Kd.R_mono HO_3.out (fun k_ hk => (⟨hk, hk.2⟩ : _ ∧ k_ ≠ gb189))) (fun k_ hk => (⟨hk, hk.1.1.2⟩ : _ ∧ k_ ≠ gb184))) (fun _ hk => hk.1.2) (.int .i64 ((rd_T55 x3_1 x8_2).f0))) (fun _ hk => hk.1.2) (.int .i64 ((rd_T55 x3_1 x8_2).f1))) (fun _ hk => hk.2) (.int .i64 ji41)) (fun _ hk => hk.2) (.int .i64 ji42)) (fun _ hk => ⟨hk.1.1.1.1, hk.1.1.1.2⟩)⟩, ⟨by (with_reducible repeat (first | apply rA | apply rN | apply rD)); exact Kd.R_mono (Kd.R_far (p := ⟨gb184, 1, none⟩) (Kd.R_far (p := ⟨gb184, 0, none⟩) (Kd.R_far (p := ⟨gb189, 1, none⟩) (Kd.R_far (p := ⟨gb189, 0, none⟩) (Kd.R_mono (Kd.R_mono HO_6.out (fun k_ hk => (⟨hk, hk.2⟩ : _ ∧ k_ ≠ gb189))) (fun k_ hk => (⟨hk, hk.1.1.2⟩ : _ ∧ k_ ≠ gb184))) (fun _ hk => hk.1.2) (.int .i64 ((rd_T55 x3_1 x8_2).f0))) (fun _ hk => hk.1.2) (.int .i64 ((rd_T55 x3_1 x8_2).f1))) (fun _ hk => hk.2) (.int .i64 ji41)) (fun _ hk => hk.2) (.int .i64 ji42)) (fun _ hk => ⟨hk.1.1.1.1, hk.1.1.1.2⟩)⟩, ⟨by (with_reducible repeat (first | apply kN | apply kD | apply kA)); refine blk_put (cs := #[.int .i64 ji41, .int .i64 x185001_2]) ?_ 1 _ rfl; (with_reducible repeat (first | apply kN | apply kD | apply kA)); refine blk_put (cs := #[.int .i64 x185000_2, .int .i64 x185001_2]) ?_ 0 _ rfl; (with_reducible repeat (first | apply kN | apply kD | apply kA)); refine blk_far ?_ NB184_189.out _; (with_reducible repeat (first | apply kN | apply kD | apply kA)); refine blk_far ?_ NB184_189.out _; (with_reducible repeat (first | apply kN | apply kD | apply kA)); exact BK184.out⟩, ⟨by repeat (first | (with_reducible first | exact HB.out | apply bA | apply bN | apply bD | refine bS ?_ GE184.out | refine bS ?_ GE189.out) | exact HB.out)⟩⟩
         ·rw [if_neg c13] at H
          exact absurd H (by simp)
        ·rw [if_neg c12] at H
         have c12b0 : decide (x8_2 < (x3_1.length : Int)) = false := decide_eq_false c12
         clear c12
         by_cases c48 : x7_2 = true
         ·subst c48
          have H1 : (berthingref01_Join.l0 k2 l0 x6_2 (wrap64 (x4_1 + 1))) = some r := by rw [if_pos rfl] at H; exact H
          clear H
          have H := H1
          clear H1
          have H' := Aside0.mk H
          clear H
          obtain ⟨Ao49, co49, eo49⟩ := Kd.R_slice HO_3.out
          subst eo49
          go_wp2
          go_roundg k2
          case measure => have := HK1.out; have := HK2.out; omega
          case rel => exact ⟨(x6_2), (wrap64 (x4_1 + 1)), (by first | rfl | (simp; done) | (simp [*]; done)), H', ⟨by have := HK1.out; have := HK2.out; omega⟩, ⟨by (with_reducible repeat (first | apply rA | apply rN | apply rD)); exact Kd.R_mono HO_6.out (fun _ hk => trivial)⟩, ⟨by repeat (first | (with_reducible first | exact HB.out | apply bA | apply bN | apply bD | refine bS ?_ GE184.out) | exact HB.out)⟩⟩
         ·replace c48 := Bool.eq_false_iff.mpr c48
          subst c48
          have H1 : (if x6_2.length < 8796093022208 then (berthingref01_Join.l0 k2 l0 (x6_2 ++ [(⟨x185000_2, x185001_2⟩ : S55)]) (wrap64 (x4_1 + 1))) else (none)) = some r := by rw [if_neg (show ¬ (false = true) by decide)] at H; exact H
          clear H
          have H := H1
          clear H1
          by_cases c50 : x6_2.length < 8796093022208
          ·rw [if_pos c50] at H
           have LMc50 := Aside0.mk c50
           clear c50
           obtain ⟨y185, hy185⟩ : ∃ y_ : List (S55), y_ = (x6_2 ++ [(⟨x185000_2, x185001_2⟩ : S55)]) := ⟨_, rfl⟩
           replace H : (berthingref01_Join.l0 k2 l0 y185 (wrap64 (x4_1 + 1))) = some r := by first | (rw [hy185]; with_reducible exact H) | (have H2_ := (Option.bind_some _ _).symm.trans H; rw [hy185]; with_reducible exact H2_) | (have H2_ := (Option.bind_some _ _).symm.trans H; with_reducible exact H2_) | with_reducible exact H | (rw [hy185]; exact H) | exact H
           have Ny185 := Aside0.mk hy185
           clear hy185
           have H' := Aside0.mk H
           clear H
           obtain ⟨Ao51, co51, eo51⟩ := Kd.R_slice HO_3.out
           subst eo51
           have hcz52_0 : wr.cell? ⟨gb184, 0, none⟩ = some (.int .i64 x185000_2) := (blk_cell BK184.out 0).trans rfl
           have hcz52_1 : wr.cell? ⟨gb184, 1, none⟩ = some (.int .i64 x185001_2) := (blk_cell BK184.out 1).trans rfl
           have hfz52_0 := blk_frozen BK184.out 0
           have hfz52_1 := blk_frozen BK184.out 1
           go_wp2_with (first | ((with_reducible refine gate_builtin (b := .append) (xs := #[.tmp 73, .tmp 75]) rfl ?_); at_builtin; refine Kd.R_append k55 (w0 := w) w.heap.size rfl (.tmp 73) (.tmp 75) 52 55 (.agg #[(.int .i64 0), (.int .i64 0)]) 16 rfl Try.underlying52 info55 rfl (by decide) (by omega) u6 x6_2 (⟨x185000_2, x185001_2⟩ : S55) [.int .i64 x185000_2, .int .i64 x185001_2] (fun k_ => some k_ ≠ (.slice Ao51 x3_1.length co51 : Value).ownBlock ∧ k_ ≠ gb184) (fun _ => False) rfl rfl ?aP (fun _ hk => hk.elim) ?aF ?aO ?aB ?aS ?aL ?_; (case aP => exact k55_mkM _ _ _ (⟨x185000_2, x185001_2⟩ : S55)); (case aB => exact (by repeat (first | (with_reducible first | exact HB.out | apply bA | apply bN | apply bD | refine bS ?_ GE184.out) | exact HB.out))); (case aF => exact (fun k_ hk => ⟨Kd.fresh' (Kd.R_lt (by (with_reducible repeat (first | apply rA | apply rN | apply rD)); exact HO_3.out)) k_ hk, Kd.freshB (g := gb184) (o := .cells #[.int .i64 x185000_2, .int .i64 x185001_2] 55 (0, 0)) (by (with_reducible repeat (first | apply kN | apply kD | apply kA)); exact BK184.out) k_ hk⟩)); (case aO => exact (by (with_reducible repeat (first | apply rA | apply rN | apply rD)); exact HO_6.out)); (case aS => exact (below_size (by repeat (first | (with_reducible first | exact HB.out | apply bA | apply bN | apply bD | refine bS ?_ GE184.out) | exact HB.out)))); (case aL => have := LMc50.out; omega); intro v186 w53 ho hb hg hat; rw [← Ny185.out] at ho; have n0_ := Aside0.mk (Kd.R_after (ok := (fun k_ => k_ ≠ gb184)) (by (with_reducible repeat (first | apply rA | apply rN | apply rD)); exact Kd.R_mono HO_3.out (fun _ hk => ⟨hk.2, hk.1⟩)) hg hat); have n1_ := Aside0.mk (blk_grown (g := gb184) (o := .cells #[.int .i64 x185000_2, .int .i64 x185001_2] 55 (0, 0)) (by (with_reducible repeat (first | apply kN | apply kD | apply kA)); exact BK184.out) hg (Kd.R_away HO_6.out (fun _ hk => hk.2))); have n2_ := Aside0.mk (hb); have n3_ := Aside0.mk (ho); clear HO_3; clear BK184; clear HB; clear HO_6; have HO_3 := n0_; have BK184 := n1_; have HB := n2_; have HO187 := n3_; clear n0_ n1_ n2_ n3_; clear ho hb hg hat))
           go_roundg k2
           case measure => have := HK1.out; have := HK2.out; omega
           case rel => exact ⟨(y185), (wrap64 (x4_1 + 1)), (by first | rfl | (simp; done) | (simp [*]; done)), H', ⟨by have := HK1.out; have := HK2.out; omega⟩, ⟨by (with_reducible repeat (first | apply rA | apply rN | apply rD)); exact Kd.R_mono HO187.out (fun _ hk => trivial)⟩, ⟨by repeat (first | (with_reducible first | exact HB.out | apply bA | apply bN | apply bD | refine bS ?_ GE184.out) | exact HB.out)⟩⟩
          ·rw [if_neg c50] at H
           exact absurd H (by simp)
    ·rw [if_neg c3] at H
     exact absurd H (by simp)
   ·rw [if_neg c2] at H
    have c2b0 : decide (x4_1 < (l0.length : Int)) = false := decide_eq_false c2
    clear c2
    obtain rfl := Option.some.inj H
    go_wp2
    go_ret
    exact ⟨_, by first | rfl | (simp [errW_none, errW_some] <;> rfl) | (simp [*, errW_none, errW_some] <;> rfl), by (with_reducible repeat (first | apply rA | apply rN | apply rD)); exact HO_3.out, by repeat (first | (with_reducible first | exact HB.out | apply bA | apply bN | apply bD) | exact HB.out)⟩

end Go.Proofs.Ytlddccmgamlccaa.PFind
