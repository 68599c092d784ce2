/- By a program of this session (the print, with contracts written by hand let in), key Tr: what the functions come to as Lean functions, and the contracts that lead from the Go code to them. Conditions: those of the statements. -/
import Derived.Test.YtdpomgfibjlehaaDoorTrDraw
import Derived.Test.YtdpomgfibjlehaaDoorTrRead
import Derived.Test.YtdpomgfibjlehaaDoorPTrx0
import Derived.Test.YtdpomgfibjlehaaDoorPTrx2
import Derived.Test.YtdpomgfibjlehaaDoorPTrx9
import Derived.Lib.SliceRun
namespace Go.Proofs.YtdpomgfibjlehaaDoor.PTr
open Go.RowKit Go.Proofs.YtdpomgfibjlehaaDoorW.PrintWords Go.Proofs.YtdpomgfibjlehaaDoorW.PrintLast Go.Proofs.YtdpomgfibjlehaaDoorW.PrintMore
attribute [local go_sem] max2_int min2_int max_two min_two max_three min_three max_four min_four   -- for this text's walks alone
set_option linter.unusedVariables false
set_option linter.unusedSimpArgs false

attribute [local go_sem high] eqA46
/-! ### berthinglaw32_one: function 12 -/
def berthinglaw32_one.f (k : Nat)  : Option (Bool) := (some (([(⟨12, 0, 1, 3, 1, false, 0⟩ : S46), (⟨12, 0, 1, 3, 3, true, 2⟩ : S46)] : List (S46)) : List (S46))).bind fun y199 => ((trace_Put.f k y199).bind fun t202 => ((trace_Read.f t202).bind fun bt205 => ((trace_Draw.f y199 0 2 0 4).bind fun t209 => (if t209.toList = ([46, 50, 50, 46, 10, 46, 50, 50, 46, 10] : List UInt8) then ((trace_Busy.f y199 0 2).bind fun t210 => (if t210 = 2 then (if bt205.2 = 0 then (if (bt205.1.length : Int) = 2 then (if 1 < (bt205.1.length : Int) then (if 1 < (y199.length : Int) then (some (((rd_T46 bt205.1 1).f0) == ((rd_T46 y199 1).f0) && (((rd_T46 bt205.1 1).f1) == ((rd_T46 y199 1).f1) && (((rd_T46 bt205.1 1).f2) == ((rd_T46 y199 1).f2) && (((rd_T46 bt205.1 1).f3) == ((rd_T46 y199 1).f3) && (((rd_T46 bt205.1 1).f4) == ((rd_T46 y199 1).f4) && (((rd_T46 bt205.1 1).f5) == ((rd_T46 y199 1).f5) && (((rd_T46 bt205.1 1).f6) == ((rd_T46 y199 1).f6))))))))) else (none)) else (none)) else (none)) else (none)) else (none))) else (none)))))
theorem berthinglaw32_one.mono : ∀ k, LeO (berthinglaw32_one.f k ) (berthinglaw32_one.f (k + 1) ) := by
 intro  k
 unfold berthinglaw32_one.f
 repeat' first
   | (with_reducible exact trace_Put.mono _ _)
   | (with_reducible exact LeO.refl _)
   | (with_reducible exact LeO.none _)
   | (with_reducible refine LeO.ite ?_ ?_)
   | (with_reducible refine LeO.bind ?_ (fun _ => ?_))
   | exact trace_Put.mono _ _
   | exact LeO.none _
   | refine LeO.ite ?_ ?_
   | refine LeO.bind ?_ (fun _ => ?_)
def berthinglaw32_one.T3 : Bool × List (List Nat × List Nat) := (true, [([], []), ([0], [0]), ([1], [1]), ([2, 1], [2]), ([3], [3]), ([4, 3, 3], [3, 4]), ([5, 3], [3, 5]), ([3, 6], [3, 6]), ([7, 5], [7]), ([8], [8]), ([9, 8], [8, 9]), ([8, 10], [8, 10]), ([11, 8], [11]), ([12], [12]), ([13, 12], [12, 13]), ([14, 12], [12, 14]), ([12, 15], [12, 15]), ([16, 12], [16]), ([17], [17]), ([18, 17], [17, 18]), ([19, 17], [17, 19]), ([17], [17]), ([21, 17], [17, 21]), ([22, 17], [17, 22]), ([20, 23, 17], [17, 20, 23]), ([17, 24], [17, 24]), ([25, 17, 0, 1, 2, 3, 4, 5, 6, 7, 8, 9, 10, 11, 12, 13, 14, 15, 16, 17, 18, 19, 20, 21, 22, 23, 24, 25], [25])])
def berthinglaw32_one.B3 : List Nat := [0, 1, 3, 7, 15, 31, 63, 127, 255, 511, 1023, 2047, 4095, 8191, 16383, 32767, 65535, 131071, 262143, 524287, 1048575, 262143, 2359295, 6553599, 16777215, 33554431, 67108863]
theorem berthinglaw32_one.tab3 : rtab .any (opsOf Tryd.f12 3) = berthinglaw32_one.T3 := by kernel_rfl
theorem berthinglaw32_one.bits3 : waitsOk berthinglaw32_one.T3.2 berthinglaw32_one.B3 = true := by kernel_rfl
set_option maxHeartbeats 8000000 in
set_option maxRecDepth 100000 in
theorem berthinglaw32_one.calls (k : Nat)  (r : Bool) (w : World) (hT : Cur.ErrT w) (h : berthinglaw32_one.f k  = some r) :
  Calls Tryd.prog 12 #[] w fun e w' => e = .returned (.bool r) ∧ Below w.heap.size w w' := by
 have hu46 := Tryd.underlying46
 have HB := Aside0.mk (Below.refl w.heap.size w)
 have H : ((some (([(⟨12, 0, 1, 3, 1, false, 0⟩ : S46), (⟨12, 0, 1, 3, 3, true, 2⟩ : S46)] : List (S46)) : List (S46))).bind fun y199 => ((trace_Put.f k y199).bind fun t202 => ((trace_Read.f t202).bind fun bt205 => ((trace_Draw.f y199 0 2 0 4).bind fun t209 => (if t209.toList = ([46, 50, 50, 46, 10, 46, 50, 50, 46, 10] : List UInt8) then ((trace_Busy.f y199 0 2).bind fun t210 => (if t210 = 2 then (if bt205.2 = 0 then (if (bt205.1.length : Int) = 2 then (if 1 < (bt205.1.length : Int) then (if 1 < (y199.length : Int) then (some (((rd_T46 bt205.1 1).f0) == ((rd_T46 y199 1).f0) && (((rd_T46 bt205.1 1).f1) == ((rd_T46 y199 1).f1) && (((rd_T46 bt205.1 1).f2) == ((rd_T46 y199 1).f2) && (((rd_T46 bt205.1 1).f3) == ((rd_T46 y199 1).f3) && (((rd_T46 bt205.1 1).f4) == ((rd_T46 y199 1).f4) && (((rd_T46 bt205.1 1).f5) == ((rd_T46 y199 1).f5) && (((rd_T46 bt205.1 1).f6) == ((rd_T46 y199 1).f6))))))))) else (none)) else (none)) else (none)) else (none)) else (none))) else (none)))))) = some r := h
 clear h
 obtain ⟨y199, hy199⟩ : ∃ y_ : List (S46), y_ = (([(⟨12, 0, 1, 3, 1, false, 0⟩ : S46), (⟨12, 0, 1, 3, 3, true, 2⟩ : S46)] : List (S46))) := ⟨_, rfl⟩
 replace H : ((trace_Put.f k y199).bind fun t202 => ((trace_Read.f t202).bind fun bt205 => ((trace_Draw.f y199 0 2 0 4).bind fun t209 => (if t209.toList = ([46, 50, 50, 46, 10, 46, 50, 50, 46, 10] : List UInt8) then ((trace_Busy.f y199 0 2).bind fun t210 => (if t210 = 2 then (if bt205.2 = 0 then (if (bt205.1.length : Int) = 2 then (if 1 < (bt205.1.length : Int) then (if 1 < (y199.length : Int) then (some (((rd_T46 bt205.1 1).f0) == ((rd_T46 y199 1).f0) && (((rd_T46 bt205.1 1).f1) == ((rd_T46 y199 1).f1) && (((rd_T46 bt205.1 1).f2) == ((rd_T46 y199 1).f2) && (((rd_T46 bt205.1 1).f3) == ((rd_T46 y199 1).f3) && (((rd_T46 bt205.1 1).f4) == ((rd_T46 y199 1).f4) && (((rd_T46 bt205.1 1).f5) == ((rd_T46 y199 1).f5) && (((rd_T46 bt205.1 1).f6) == ((rd_T46 y199 1).f6))))))))) else (none)) else (none)) else (none)) else (none)) else (none))) else (none))))) = some r := by first | (rw [hy199]; with_reducible exact H) | (have H2_ := (Option.bind_some _ _).symm.trans H; rw [hy199]; with_reducible exact H2_) | (have H2_ := (Option.bind_some _ _).symm.trans H; with_reducible exact H2_) | with_reducible exact H | (rw [hy199]; exact H) | exact H
 have Ny199 := Aside0.mk hy199
 clear hy199
 replace H := Option.bind_eq_some_iff.mp H
 obtain ⟨t202, A10, H⟩ := H
 replace H : ((trace_Read.f t202).bind fun bt205 => ((trace_Draw.f y199 0 2 0 4).bind fun t209 => (if t209.toList = ([46, 50, 50, 46, 10, 46, 50, 50, 46, 10] : List UInt8) then ((trace_Busy.f y199 0 2).bind fun t210 => (if t210 = 2 then (if bt205.2 = 0 then (if (bt205.1.length : Int) = 2 then (if 1 < (bt205.1.length : Int) then (if 1 < (y199.length : Int) then (some (((rd_T46 bt205.1 1).f0) == ((rd_T46 y199 1).f0) && (((rd_T46 bt205.1 1).f1) == ((rd_T46 y199 1).f1) && (((rd_T46 bt205.1 1).f2) == ((rd_T46 y199 1).f2) && (((rd_T46 bt205.1 1).f3) == ((rd_T46 y199 1).f3) && (((rd_T46 bt205.1 1).f4) == ((rd_T46 y199 1).f4) && (((rd_T46 bt205.1 1).f5) == ((rd_T46 y199 1).f5) && (((rd_T46 bt205.1 1).f6) == ((rd_T46 y199 1).f6))))))))) else (none)) else (none)) else (none)) else (none)) else (none))) else (none)))) = some r := H
 have A1 := Aside0.mk A10
 clear A10
 replace H := Option.bind_eq_some_iff.mp H
 obtain ⟨⟨t205, t206⟩, A20, H⟩ := H
 replace H : ((trace_Draw.f y199 0 2 0 4).bind fun t209 => (if t209.toList = ([46, 50, 50, 46, 10, 46, 50, 50, 46, 10] : List UInt8) then ((trace_Busy.f y199 0 2).bind fun t210 => (if t210 = 2 then (if t206 = 0 then (if (t205.length : Int) = 2 then (if 1 < (t205.length : Int) then (if 1 < (y199.length : Int) then (some (((rd_T46 t205 1).f0) == ((rd_T46 y199 1).f0) && (((rd_T46 t205 1).f1) == ((rd_T46 y199 1).f1) && (((rd_T46 t205 1).f2) == ((rd_T46 y199 1).f2) && (((rd_T46 t205 1).f3) == ((rd_T46 y199 1).f3) && (((rd_T46 t205 1).f4) == ((rd_T46 y199 1).f4) && (((rd_T46 t205 1).f5) == ((rd_T46 y199 1).f5) && (((rd_T46 t205 1).f6) == ((rd_T46 y199 1).f6))))))))) else (none)) else (none)) else (none)) else (none)) else (none))) else (none))) = some r := H
 have A2 := Aside0.mk A20
 clear A20
 replace H := Option.bind_eq_some_iff.mp H
 obtain ⟨t209, A30, H⟩ := H
 replace H : (if t209.toList = ([46, 50, 50, 46, 10, 46, 50, 50, 46, 10] : List UInt8) then ((trace_Busy.f y199 0 2).bind fun t210 => (if t210 = 2 then (if t206 = 0 then (if (t205.length : Int) = 2 then (if 1 < (t205.length : Int) then (if 1 < (y199.length : Int) then (some (((rd_T46 t205 1).f0) == ((rd_T46 y199 1).f0) && (((rd_T46 t205 1).f1) == ((rd_T46 y199 1).f1) && (((rd_T46 t205 1).f2) == ((rd_T46 y199 1).f2) && (((rd_T46 t205 1).f3) == ((rd_T46 y199 1).f3) && (((rd_T46 t205 1).f4) == ((rd_T46 y199 1).f4) && (((rd_T46 t205 1).f5) == ((rd_T46 y199 1).f5) && (((rd_T46 t205 1).f6) == ((rd_T46 y199 1).f6))))))))) else (none)) else (none)) else (none)) else (none)) else (none))) else (none)) = some r := H
 have A3 := Aside0.mk A30
 clear A30
 by_cases c4 : t209.toList = ([46, 50, 50, 46, 10, 46, 50, 50, 46, 10] : List UInt8)
 ·rw [if_pos c4] at H
  have c4b0 : (t209.toList == ([46, 50, 50, 46, 10, 46, 50, 50, 46, 10] : List UInt8)) = true := beq_iff_eq.mpr c4
  have c4b1 : (t209.toList != ([46, 50, 50, 46, 10, 46, 50, 50, 46, 10] : List UInt8)) = false := bne_eq_false_iff_eq.mpr c4
  clear c4
  replace H := Option.bind_eq_some_iff.mp H
  obtain ⟨t210, A50, H⟩ := H
  replace H : (if t210 = 2 then (if t206 = 0 then (if (t205.length : Int) = 2 then (if 1 < (t205.length : Int) then (if 1 < (y199.length : Int) then (some (((rd_T46 t205 1).f0) == ((rd_T46 y199 1).f0) && (((rd_T46 t205 1).f1) == ((rd_T46 y199 1).f1) && (((rd_T46 t205 1).f2) == ((rd_T46 y199 1).f2) && (((rd_T46 t205 1).f3) == ((rd_T46 y199 1).f3) && (((rd_T46 t205 1).f4) == ((rd_T46 y199 1).f4) && (((rd_T46 t205 1).f5) == ((rd_T46 y199 1).f5) && (((rd_T46 t205 1).f6) == ((rd_T46 y199 1).f6))))))))) else (none)) else (none)) else (none)) else (none)) else (none)) = some r := H
  have A5 := Aside0.mk A50
  clear A50
  by_cases c6 : t210 = 2
  ·rw [if_pos c6] at H
   have c6b0 : (t210 == 2) = true := beq_iff_eq.mpr c6
   have c6b1 : (t210 != 2) = false := bne_eq_false_iff_eq.mpr c6
   clear c6
   by_cases c7 : t206 = 0
   ·rw [if_pos c7] at H
    have c7b0 : (t206 == 0) = true := beq_iff_eq.mpr c7
    have c7b1 : (t206 != 0) = false := bne_eq_false_iff_eq.mpr c7
    clear c7
    by_cases c8 : (t205.length : Int) = 2
    ·rw [if_pos c8] at H
     have c8b0 : ((t205.length : Int) == 2) = true := beq_iff_eq.mpr c8
     have c8b1 : ((t205.length : Int) != 2) = false := bne_eq_false_iff_eq.mpr c8
     clear c8
     by_cases c9 : 1 < (t205.length : Int)
     ·rw [if_pos c9] at H
      have c9b0 : decide (1 < (t205.length : Int)) = true := decide_eq_true c9
      have c9b1 : decide (1 < t205.length) = true := decide_eq_true (by omega)
      clear c9
      by_cases c10 : 1 < (y199.length : Int)
      ·rw [if_pos c10] at H
       have c10b0 : decide (1 < (y199.length : Int)) = true := decide_eq_true c10
       have c10b1 : decide (1 < y199.length) = true := decide_eq_true (by omega)
       clear c10
       obtain rfl := Option.some.inj H
       go_enter Tryd.func12, Tryd.ntmps12
       try go_wp2_with (first | ((with_reducible refine gate_dst (N := 6) rfl ?_); (try (refine gate_guard (by rfl) ?_; dsimp only)); refine Kd.R_lit k46 _ 46 ?hg (N := 6) ?hd (xs := ([(⟨12, 0, 1, 3, 1, false, 0⟩ : S46), (⟨12, 0, 1, 3, 3, true, 2⟩ : S46)] : List (S46))) (inner := [.int .i64 12, .int .i64 0, .int .i64 1, .int .u64 3, .int .i64 1, .bool false, .int .i64 0, .int .i64 12, .int .i64 0, .int .i64 1, .int .u64 3, .int .i64 3, .bool true, .int .i64 2]) (ok := fun _ => True) (okp := fun _ => True) ?hr ?hp (fun _ hk => hk) trivial (Below.refl _ _) (Nat.le_refl _) (by simp) ?_; (case hd => rfl); (case hg => rfl); (case hr => first | (go_simp; done) | (go_simp; rfl)); (case hp => exact (Reps.c7 (show Kd.M k46 _ _ _ (⟨12, 0, 1, 3, 1, false, 0⟩ : S46) [.int .i64 12, .int .i64 0, .int .i64 1, .int .u64 3, .int .i64 1, .bool false, .int .i64 0] from (k46_mkM _ _ _ (⟨12, 0, 1, 3, 1, false, 0⟩ : S46) )) (Reps.c7 (show Kd.M k46 _ _ _ (⟨12, 0, 1, 3, 3, true, 2⟩ : S46) [.int .i64 12, .int .i64 0, .int .i64 1, .int .u64 3, .int .i64 3, .bool true, .int .i64 2] from (k46_mkM _ _ _ (⟨12, 0, 1, 3, 3, true, 2⟩ : S46) )) (Reps.none _ _)))); intro v200 w11 ho12 hb hg_ hnew_; clear hg_ hnew_; (first | rw [← Ny199.out] at ho12 | (simp only [Int.reduceToNat] at ho12; rw [← Ny199.out] at ho12)); have n0_ := Aside0.mk (Kd.R_lower ho12 (below_size (by repeat (first | (with_reducible first | exact HB.out | apply below_alloc | apply pw_below_drewN | apply below_drew1) | exact HB.out)))); have n1_ := Aside0.mk (below_step (by repeat (first | (with_reducible first | exact HB.out | apply below_alloc | apply pw_below_drewN | apply below_drew1) | exact HB.out)) hb); clear HB; have HO201 := n0_; have HB := n1_; clear n0_ n1_; clear hb ho12; obtain ⟨Ao13, co13, eo13⟩ := Kd.R_slice HO201.out; subst eo13) | ((with_reducible refine gate_callee (f := 9) rfl ?_); refine goesL_ (some 9) rfl rfl Tryd.func9 (by kernel_rfl) rfl #[.slice Ao13 y199.length co13] rfl (by (try simp only [List.map_toArray, List.map_cons, List.map_nil]); first | done | rfl | (simp only [List.length_drop, List.length_take]; rfl)) ?_; (with_reducible refine (trace_Put.calls k _ _ y199 t202 _ ?side1 ?side2 A1.out).mono ?_); (case side1 => repeat (first | exact (Kd.R_reads' HO201.out).2.2 | (with_reducible refine Kd.C_alloc ?_ _) | (with_reducible refine Kd.C_drewN ?_ _) | (with_reducible refine Kd.C_drew ?_))); (case side2 => exact (Kd.R_reads' HO201.out).2.1); rintro e w14 ⟨v203, rfl, ho0, hb⟩; refine ⟨_, rfl, ?_⟩; have n0_ := Aside0.mk (Kd.R_below (by (with_reducible repeat (first | apply Kd.R_alloc | apply Kd.R_drewN | apply Kd.R_drew)); exact HO201.out) hb); have n1_ := Aside0.mk (Kd.V_lower (Kd.V_mono (ok' := fun k_ => some k_ ≠ (.slice Ao13 y199.length co13 : Value).ownBlock) ho0 (fun k_ hk_ => (Kd.fresh' (Kd.R_lt (by (with_reducible repeat (first | apply Kd.R_alloc | apply Kd.R_drewN | apply Kd.R_drew)); exact HO201.out)) k_ hk_))) (below_size (by repeat (first | (with_reducible first | exact HB.out | apply below_alloc | apply pw_below_drewN | apply below_drew1) | exact HB.out)))); have n2_ := Aside0.mk (below_step (by repeat (first | (with_reducible first | exact HB.out | apply below_alloc | apply pw_below_drewN | apply below_drew1) | exact HB.out)) hb); clear HO201; clear HB; have HO201 := n0_; have HO204 := n1_; have HB := n2_; clear n0_ n1_ n2_; (try clear hb); (try clear hb2); (try clear hk); (try clear hi); (try clear ho0); obtain ⟨Ao15, co15, eo15⟩ := Kd.V_slice HO204.out; subst eo15) | ((with_reducible refine gate_callee (f := 7) rfl ?_); refine goesL_ (some 10) rfl rfl Tryd.func7 (by kernel_rfl) rfl #[.slice Ao15 t202.length co15] rfl (by (try simp only [List.map_toArray, List.map_cons, List.map_nil]); first | done | rfl | (simp only [List.length_drop, List.length_take]; rfl)) ?_; (with_reducible refine (trace_Read.calls _ _ t202 t205 t206 _ (Cur.ErrT.go (by repeat (first | (with_reducible first | exact HB.out | apply below_alloc | apply pw_below_drewN | apply below_drew1) | exact HB.out)) hT) ?side1 ?side2 A2.out).mono ?_); (case side1 => repeat (first | exact (Kd.V_reads' HO204.out).2.2 | (with_reducible refine Kd.C_alloc ?_ _) | (with_reducible refine Kd.C_drewN ?_ _) | (with_reducible refine Kd.C_drew ?_))); (case side2 => exact (Kd.V_reads' HO204.out).2.1); rintro e w16 ⟨v207, rfl, ho0, hb⟩; refine ⟨_, rfl, ?_⟩; have n0_ := Aside0.mk (Kd.R_elder' (by (with_reducible repeat (first | apply Kd.R_alloc | apply Kd.R_drewN | apply Kd.R_drew)); exact HO201.out) (Kd.R_base ho0) hb); have n1_ := Aside0.mk (Kd.V_elder' (by (with_reducible repeat (first | apply Kd.V_alloc | apply Kd.V_drewN | apply Kd.V_drew)); exact HO204.out) (Kd.R_base ho0) hb); have n2_ := Aside0.mk (Kd.R_lower (Kd.R_new' ho0 (Kd.R_lt (by (with_reducible repeat (first | apply Kd.R_alloc | apply Kd.R_drewN | apply Kd.R_drew)); exact HO201.out))) (below_size (by repeat (first | (with_reducible first | exact HB.out | apply below_alloc | apply pw_below_drewN | apply below_drew1) | exact HB.out)))); have n3_ := Aside0.mk (below_step (by repeat (first | (with_reducible first | exact HB.out | apply below_alloc | apply pw_below_drewN | apply below_drew1) | exact HB.out)) hb); clear HO201; clear HO204; clear HB; have HO201 := n0_; have HO204 := n1_; have HO208 := n2_; have HB := n3_; clear n0_ n1_ n2_ n3_; (try clear hb); (try clear hb2); (try clear hk); (try clear hi); (try clear ho0)))
       have n0_ := Aside0.mk (Kd.R_drew HO201.out)
       have n1_ := Aside0.mk (Kd.V_drew HO204.out)
       have n2_ := Aside0.mk (Kd.R_drew HO208.out)
       have n3_ := Aside0.mk (below_drew1 HB.out)
       clear HO201
       clear HO204
       clear HO208
       clear HB
       have HO201 := n0_
       have HO204 := n1_
       have HO208 := n2_
       have HB := n3_
       clear n0_ n1_ n2_ n3_
       have p211 : 0 ≤ (1 : Int) := (by omega)
       have q211 : 1 < (t205.length : Int) := of_decide_eq_true (by first | (with_reducible assumption) | assumption)
       obtain ⟨Ao20_, co20_, rfl⟩ := Kd.R_slice HO208.out
       obtain ⟨ad211, e211, hx211_0, hx211_1, hx211_2, hx211_3, hx211_4, hx211_5, hx211_6⟩ := at_T46 (Kd.R_reads' HO208.out).2.2 1 p211 q211
       cases e211
       (try simp only [show (1 : Int).toNat = 1 from rfl, Nat.reduceMul, Nat.reduceEqDiff, Go.Addr.add, ↓reduceIte] at hx211_0)
       (try simp only [show (1 : Int).toNat = 1 from rfl, Nat.reduceMul, Nat.reduceEqDiff, Go.Addr.add, ↓reduceIte] at hx211_1)
       (try simp only [show (1 : Int).toNat = 1 from rfl, Nat.reduceMul, Nat.reduceEqDiff, Go.Addr.add, ↓reduceIte] at hx211_2)
       (try simp only [show (1 : Int).toNat = 1 from rfl, Nat.reduceMul, Nat.reduceEqDiff, Go.Addr.add, ↓reduceIte] at hx211_3)
       (try simp only [show (1 : Int).toNat = 1 from rfl, Nat.reduceMul, Nat.reduceEqDiff, Go.Addr.add, ↓reduceIte] at hx211_4)
       (try simp only [show (1 : Int).toNat = 1 from rfl, Nat.reduceMul, Nat.reduceEqDiff, Go.Addr.add, ↓reduceIte] at hx211_5)
       (try simp only [show (1 : Int).toNat = 1 from rfl, Nat.reduceMul, Nat.reduceEqDiff, Go.Addr.add, ↓reduceIte] at hx211_6)
       have qi211 : (1 < t205.length) = True := eq_true (by omega)
       (try rw [show ((1 : Int)).toNat = 1 from rfl] at hx211_0)
       (try rw [show 1 * 7 = 7 from rfl] at hx211_0)
       (try rw [show ((1 : Int)).toNat = 1 from rfl] at hx211_1)
       (try rw [show 1 * 7 = 7 from rfl] at hx211_1)
       (try rw [show ((1 : Int)).toNat = 1 from rfl] at hx211_2)
       (try rw [show 1 * 7 = 7 from rfl] at hx211_2)
       (try rw [show ((1 : Int)).toNat = 1 from rfl] at hx211_3)
       (try rw [show 1 * 7 = 7 from rfl] at hx211_3)
       (try rw [show ((1 : Int)).toNat = 1 from rfl] at hx211_4)
       (try rw [show 1 * 7 = 7 from rfl] at hx211_4)
       (try rw [show ((1 : Int)).toNat = 1 from rfl] at hx211_5)
       (try rw [show 1 * 7 = 7 from rfl] at hx211_5)
       (try rw [show ((1 : Int)).toNat = 1 from rfl] at hx211_6)
       (try rw [show 1 * 7 = 7 from rfl] at hx211_6)
       replace p211 := eq_true p211
       replace q211 := eq_true q211
       have p212 : 0 ≤ (1 : Int) := (by omega)
       have q212 : 1 < (y199.length : Int) := of_decide_eq_true (by first | (with_reducible assumption) | assumption)
       obtain ⟨ad212, e212, hx212_0, hx212_1, hx212_2, hx212_3, hx212_4, hx212_5, hx212_6⟩ := at_T46 (Kd.R_reads' HO201.out).2.2 1 p212 q212
       cases e212
       (try simp only [show (1 : Int).toNat = 1 from rfl, Nat.reduceMul, Nat.reduceEqDiff, Go.Addr.add, ↓reduceIte] at hx212_0)
       (try simp only [show (1 : Int).toNat = 1 from rfl, Nat.reduceMul, Nat.reduceEqDiff, Go.Addr.add, ↓reduceIte] at hx212_1)
       (try simp only [show (1 : Int).toNat = 1 from rfl, Nat.reduceMul, Nat.reduceEqDiff, Go.Addr.add, ↓reduceIte] at hx212_2)
       (try simp only [show (1 : Int).toNat = 1 from rfl, Nat.reduceMul, Nat.reduceEqDiff, Go.Addr.add, ↓reduceIte] at hx212_3)
       (try simp only [show (1 : Int).toNat = 1 from rfl, Nat.reduceMul, Nat.reduceEqDiff, Go.Addr.add, ↓reduceIte] at hx212_4)
       (try simp only [show (1 : Int).toNat = 1 from rfl, Nat.reduceMul, Nat.reduceEqDiff, Go.Addr.add, ↓reduceIte] at hx212_5)
       (try simp only [show (1 : Int).toNat = 1 from rfl, Nat.reduceMul, Nat.reduceEqDiff, Go.Addr.add, ↓reduceIte] at hx212_6)
       have qi212 : (1 < y199.length) = True := eq_true (by omega)
       (try rw [show ((1 : Int)).toNat = 1 from rfl] at hx212_0)
       (try rw [show 1 * 7 = 7 from rfl] at hx212_0)
       (try rw [show ((1 : Int)).toNat = 1 from rfl] at hx212_1)
       (try rw [show 1 * 7 = 7 from rfl] at hx212_1)
       (try rw [show ((1 : Int)).toNat = 1 from rfl] at hx212_2)
       (try rw [show 1 * 7 = 7 from rfl] at hx212_2)
       (try rw [show ((1 : Int)).toNat = 1 from rfl] at hx212_3)
       (try rw [show 1 * 7 = 7 from rfl] at hx212_3)
       (try rw [show ((1 : Int)).toNat = 1 from rfl] at hx212_4)
       (try rw [show 1 * 7 = 7 from rfl] at hx212_4)
       (try rw [show ((1 : Int)).toNat = 1 from rfl] at hx212_5)
       (try rw [show 1 * 7 = 7 from rfl] at hx212_5)
       (try rw [show ((1 : Int)).toNat = 1 from rfl] at hx212_6)
       (try rw [show 1 * 7 = 7 from rfl] at hx212_6)
       replace p212 := eq_true p212
       replace q212 := eq_true q212
       refine start_ (n := 27) (S := fun w' => w'.cell? ⟨ad211.block, ad211.off + 7, none⟩ = some (.int .i64 ((rd_T46 t205 1).f0)) ∧ w'.cell? ⟨ad211.block, ad211.off + 7 + 1, none⟩ = some (.int .i64 ((rd_T46 t205 1).f1)) ∧ w'.cell? ⟨ad211.block, ad211.off + 7 + 2, none⟩ = some (.int .i64 ((rd_T46 t205 1).f2)) ∧ w'.cell? ⟨ad211.block, ad211.off + 7 + 3, none⟩ = some (.int .u64 ((rd_T46 t205 1).f3)) ∧ w'.cell? ⟨ad211.block, ad211.off + 7 + 4, none⟩ = some (.int .i64 ((rd_T46 t205 1).f4)) ∧ w'.cell? ⟨ad211.block, ad211.off + 7 + 5, none⟩ = some (.bool ((rd_T46 t205 1).f5)) ∧ w'.cell? ⟨ad211.block, ad211.off + 7 + 6, none⟩ = some (.int .i64 ((rd_T46 t205 1).f6)) ∧ w'.cell? ⟨ad212.block, ad212.off + 7, none⟩ = some (.int .i64 ((rd_T46 y199 1).f0)) ∧ w'.cell? ⟨ad212.block, ad212.off + 7 + 1, none⟩ = some (.int .i64 ((rd_T46 y199 1).f1)) ∧ w'.cell? ⟨ad212.block, ad212.off + 7 + 2, none⟩ = some (.int .i64 ((rd_T46 y199 1).f2)) ∧ w'.cell? ⟨ad212.block, ad212.off + 7 + 3, none⟩ = some (.int .u64 ((rd_T46 y199 1).f3)) ∧ w'.cell? ⟨ad212.block, ad212.off + 7 + 4, none⟩ = some (.int .i64 ((rd_T46 y199 1).f4)) ∧ w'.cell? ⟨ad212.block, ad212.off + 7 + 5, none⟩ = some (.bool ((rd_T46 y199 1).f5)) ∧ w'.cell? ⟨ad212.block, ad212.off + 7 + 6, none⟩ = some (.int .i64 ((rd_T46 y199 1).f6))) (ds := []) #[false, false, false, false, false, false, false, false, false, false, false, false, false, false, false, false, false, false, false, false, false, false, false, false, false, false, false] (by kernel_rfl) rfl rfl ⟨hx211_0, hx211_1, hx211_2, hx211_3, hx211_4, hx211_5, hx211_6, hx212_0, hx212_1, hx212_2, hx212_3, hx212_4, hx212_5, hx212_6⟩ (fun hHeld => ?_); refine with_tabW berthinglaw32_one.tab3 berthinglaw32_one.bits3 (fun HT_ HW_ => ?_)
       generalize w16.drew = w17 at HO201 HO204 HO208 HB hx211_0 hx211_1 hx211_2 hx211_3 hx211_4 hx211_5 hx211_6 hx212_0 hx212_1 hx212_2 hx212_3 hx212_4 hx212_5 hx212_6 hHeld ⊢
       refine pure_ (i := 0) (N := some 13) (v := ?_) (a' := ?_) #[true, false, false, false, false, false, false, false, false, false, false, false, false, false, false, false, false, false, false, false, false, false, false, false, false, false, false] rfl rfl (any_of HT_.out (by kernel_rfl)) (fun _ _ _ h => h) (Or.inl ⟨by rfl, ?_⟩) ?_ ?_
       rotate_left
       ·intro w'
        go_simp
        with_reducible rfl
       rotate_left
       ·simp only [Act.put, List.setIfInBounds_toArray, List.set_cons_zero, List.set_cons_succ, i64_w, i32_w]
        rfl
       refine one_ (i := 1) (N := some 14) #[true, true, false, false, false, false, false, false, false, false, false, false, false, false, false, false, false, false, false, false, false, false, false, false, false, false, false] rfl rfl (one_of HT_.out (by kernel_rfl)) (by decide) (fun K hK => ?_)
       refine goes_ Tryd.func14 (by kernel_rfl) rfl #[.slice (some ad212) y199.length co13, .int .i64 0, .int .i64 2, .int .i64 0, .int .i64 4] (by rfl) rfl rfl (by (try simp only [List.map_toArray, List.map_cons, List.map_nil]); first | done | rfl | (simp only [List.length_drop, List.length_take]; rfl)) ?_
       with_reducible refine (trace_Draw.calls _ _ y199 0 2 0 4 t209 _ ?side1 ?side2 A3.out).mono ?_
       (case side1 => repeat (first | exact (Kd.R_reads' HO201.out).2.2 | (with_reducible refine Kd.C_alloc ?_ _) | (with_reducible refine Kd.C_drewN ?_ _) | (with_reducible refine Kd.C_drew ?_)))
       (case side2 => exact (Kd.R_reads' HO201.out).2.1)
       rintro e w18 ⟨rfl, hb⟩
       have HS0_ := (hb.cell (World.block_lt_of_cell? _ _ (hHeld.1))).trans (hHeld.1)
       have HS1_ := (hb.cell (World.block_lt_of_cell? _ _ (hHeld.2.1))).trans (hHeld.2.1)
       have HS2_ := (hb.cell (World.block_lt_of_cell? _ _ (hHeld.2.2.1))).trans (hHeld.2.2.1)
       have HS3_ := (hb.cell (World.block_lt_of_cell? _ _ (hHeld.2.2.2.1))).trans (hHeld.2.2.2.1)
       have HS4_ := (hb.cell (World.block_lt_of_cell? _ _ (hHeld.2.2.2.2.1))).trans (hHeld.2.2.2.2.1)
       have HS5_ := (hb.cell (World.block_lt_of_cell? _ _ (hHeld.2.2.2.2.2.1))).trans (hHeld.2.2.2.2.2.1)
       have HS6_ := (hb.cell (World.block_lt_of_cell? _ _ (hHeld.2.2.2.2.2.2.1))).trans (hHeld.2.2.2.2.2.2.1)
       have HS7_ := (hb.cell (World.block_lt_of_cell? _ _ (hHeld.2.2.2.2.2.2.2.1))).trans (hHeld.2.2.2.2.2.2.2.1)
       have HS8_ := (hb.cell (World.block_lt_of_cell? _ _ (hHeld.2.2.2.2.2.2.2.2.1))).trans (hHeld.2.2.2.2.2.2.2.2.1)
       have HS9_ := (hb.cell (World.block_lt_of_cell? _ _ (hHeld.2.2.2.2.2.2.2.2.2.1))).trans (hHeld.2.2.2.2.2.2.2.2.2.1)
       have HS10_ := (hb.cell (World.block_lt_of_cell? _ _ (hHeld.2.2.2.2.2.2.2.2.2.2.1))).trans (hHeld.2.2.2.2.2.2.2.2.2.2.1)
       have HS11_ := (hb.cell (World.block_lt_of_cell? _ _ (hHeld.2.2.2.2.2.2.2.2.2.2.2.1))).trans (hHeld.2.2.2.2.2.2.2.2.2.2.2.1)
       have HS12_ := (hb.cell (World.block_lt_of_cell? _ _ (hHeld.2.2.2.2.2.2.2.2.2.2.2.2.1))).trans (hHeld.2.2.2.2.2.2.2.2.2.2.2.2.1)
       have HS13_ := (hb.cell (World.block_lt_of_cell? _ _ (hHeld.2.2.2.2.2.2.2.2.2.2.2.2.2))).trans (hHeld.2.2.2.2.2.2.2.2.2.2.2.2.2)
       refine ⟨_, rfl, ?_⟩
       have n0_ := Aside0.mk (Kd.R_below (by (with_reducible repeat (first | apply Kd.R_alloc | apply Kd.R_drewN | apply Kd.R_drew)); exact HO201.out) hb)
       have n1_ := Aside0.mk (Kd.V_below (by (with_reducible repeat (first | apply Kd.V_alloc | apply Kd.V_drewN | apply Kd.V_drew)); exact HO204.out) hb)
       have n2_ := Aside0.mk (Kd.R_below (by (with_reducible repeat (first | apply Kd.R_alloc | apply Kd.R_drewN | apply Kd.R_drew)); exact HO208.out) hb)
       have n3_ := Aside0.mk (below_step (by repeat (first | (with_reducible first | exact HB.out | apply below_alloc | apply pw_below_drewN | apply below_drew1) | exact HB.out)) hb)
       clear HO201
       clear HO204
       clear HO208
       clear HB
       have HO201 := n0_
       have HO204 := n1_
       have HO208 := n2_
       have HB := n3_
       clear n0_ n1_ n2_ n3_
       (try clear hb)
       (try clear hb2)
       (try clear hk)
       (try clear hi)
       refine hK.out _ _ ⟨HS0_, HS1_, HS2_, HS3_, HS4_, HS5_, HS6_, HS7_, HS8_, HS9_, HS10_, HS11_, HS12_, HS13_⟩ (fun hHeld => ?_)
       clear hK K
       refine norm_ (a' := ?_) ?_ ?_
       rotate_left
       ·show Act.put _ (some 14) _ = _
        simp only [Act.put, List.setIfInBounds_toArray, List.set_cons_zero, List.set_cons_succ, i64_w, i32_w]
        rfl
       refine pure_ (i := 2) (N := some 15) (v := ?_) (a' := ?_) #[true, true, true, false, false, false, false, false, false, false, false, false, false, false, false, false, false, false, false, false, false, false, false, false, false, false, false] rfl rfl (any_of HT_.out (by kernel_rfl)) (fun _ _ _ h => h) (Or.inl ⟨by rfl, ?_⟩) ?_ ?_
       rotate_left
       ·intro w'
        go_simp
        with_reducible rfl
       rotate_left
       ·simp only [Act.put, List.setIfInBounds_toArray, List.set_cons_zero, List.set_cons_succ, i64_w, i32_w]
        rfl
       refine pure_ (i := 3) (N := some 16) (v := ?_) (a' := ?_) #[true, true, true, true, false, false, false, false, false, false, false, false, false, false, false, false, false, false, false, false, false, false, false, false, false, false, false] rfl rfl (any_of HT_.out (by kernel_rfl)) (fun _ _ _ h => h) (Or.inl ⟨by rfl, ?_⟩) ?_ ?_
       rotate_left
       ·intro w'
        go_simp
        with_reducible rfl
       rotate_left
       ·simp only [Act.put, List.setIfInBounds_toArray, List.set_cons_zero, List.set_cons_succ, i64_w, i32_w]
        rfl
       refine pure_ (i := 4) (N := some 17) (v := ?_) (a' := ?_) #[true, true, true, true, true, false, false, false, false, false, false, false, false, false, false, false, false, false, false, false, false, false, false, false, false, false, false] rfl rfl (any_of HT_.out (by kernel_rfl)) (fun _ _ _ h => h) (Or.inl ⟨by rfl, ?_⟩) ?_ ?_
       rotate_left
       ·intro w'
        go_simp
        with_reducible rfl
       rotate_left
       ·simp only [Act.put, List.setIfInBounds_toArray, List.set_cons_zero, List.set_cons_succ, i64_w, i32_w]
        rfl
       refine one_ (i := 5) (N := some 18) #[true, true, true, true, true, true, false, false, false, false, false, false, false, false, false, false, false, false, false, false, false, false, false, false, false, false, false] rfl rfl (one_of HT_.out (by kernel_rfl)) (by decide) (fun K hK => ?_)
       refine goes_ Tryd.func16 (by kernel_rfl) rfl #[.slice (some ad212) y199.length co13, .int .i64 0, .int .i64 2] (by rfl) rfl rfl (by (try simp only [List.map_toArray, List.map_cons, List.map_nil]); first | done | rfl | (simp only [List.length_drop, List.length_take]; rfl)) ?_
       with_reducible refine (trace_Busy.calls _ _ y199 0 2 t210 _ ?side1 ?side2 A5.out).mono ?_
       (case side1 => repeat (first | exact (Kd.R_reads' HO201.out).2.2 | (with_reducible refine Kd.C_alloc ?_ _) | (with_reducible refine Kd.C_drewN ?_ _) | (with_reducible refine Kd.C_drew ?_)))
       (case side2 => exact (Kd.R_reads' HO201.out).2.1)
       rintro e w19 ⟨rfl, hb⟩
       have HS0_ := (hb.cell (World.block_lt_of_cell? _ _ (hHeld.1))).trans (hHeld.1)
       have HS1_ := (hb.cell (World.block_lt_of_cell? _ _ (hHeld.2.1))).trans (hHeld.2.1)
       have HS2_ := (hb.cell (World.block_lt_of_cell? _ _ (hHeld.2.2.1))).trans (hHeld.2.2.1)
       have HS3_ := (hb.cell (World.block_lt_of_cell? _ _ (hHeld.2.2.2.1))).trans (hHeld.2.2.2.1)
       have HS4_ := (hb.cell (World.block_lt_of_cell? _ _ (hHeld.2.2.2.2.1))).trans (hHeld.2.2.2.2.1)
       have HS5_ := (hb.cell (World.block_lt_of_cell? _ _ (hHeld.2.2.2.2.2.1))).trans (hHeld.2.2.2.2.2.1)
       have HS6_ := (hb.cell (World.block_lt_of_cell? _ _ (hHeld.2.2.2.2.2.2.1))).trans (hHeld.2.2.2.2.2.2.1)
       have HS7_ := (hb.cell (World.block_lt_of_cell? _ _ (hHeld.2.2.2.2.2.2.2.1))).trans (hHeld.2.2.2.2.2.2.2.1)
       have HS8_ := (hb.cell (World.block_lt_of_cell? _ _ (hHeld.2.2.2.2.2.2.2.2.1))).trans (hHeld.2.2.2.2.2.2.2.2.1)
       have HS9_ := (hb.cell (World.block_lt_of_cell? _ _ (hHeld.2.2.2.2.2.2.2.2.2.1))).trans (hHeld.2.2.2.2.2.2.2.2.2.1)
       have HS10_ := (hb.cell (World.block_lt_of_cell? _ _ (hHeld.2.2.2.2.2.2.2.2.2.2.1))).trans (hHeld.2.2.2.2.2.2.2.2.2.2.1)
       have HS11_ := (hb.cell (World.block_lt_of_cell? _ _ (hHeld.2.2.2.2.2.2.2.2.2.2.2.1))).trans (hHeld.2.2.2.2.2.2.2.2.2.2.2.1)
       have HS12_ := (hb.cell (World.block_lt_of_cell? _ _ (hHeld.2.2.2.2.2.2.2.2.2.2.2.2.1))).trans (hHeld.2.2.2.2.2.2.2.2.2.2.2.2.1)
       have HS13_ := (hb.cell (World.block_lt_of_cell? _ _ (hHeld.2.2.2.2.2.2.2.2.2.2.2.2.2))).trans (hHeld.2.2.2.2.2.2.2.2.2.2.2.2.2)
       refine ⟨_, rfl, ?_⟩
       have n0_ := Aside0.mk (Kd.R_below (by (with_reducible repeat (first | apply Kd.R_alloc | apply Kd.R_drewN | apply Kd.R_drew)); exact HO201.out) hb)
       have n1_ := Aside0.mk (Kd.V_below (by (with_reducible repeat (first | apply Kd.V_alloc | apply Kd.V_drewN | apply Kd.V_drew)); exact HO204.out) hb)
       have n2_ := Aside0.mk (Kd.R_below (by (with_reducible repeat (first | apply Kd.R_alloc | apply Kd.R_drewN | apply Kd.R_drew)); exact HO208.out) hb)
       have n3_ := Aside0.mk (below_step (by repeat (first | (with_reducible first | exact HB.out | apply below_alloc | apply pw_below_drewN | apply below_drew1) | exact HB.out)) hb)
       clear HO201
       clear HO204
       clear HO208
       clear HB
       have HO201 := n0_
       have HO204 := n1_
       have HO208 := n2_
       have HB := n3_
       clear n0_ n1_ n2_ n3_
       (try clear hb)
       (try clear hb2)
       (try clear hk)
       (try clear hi)
       obtain ⟨Ao20, co20, eo20⟩ := Kd.R_slice HO208.out
       (first | subst eo20 | (injection eo20 with f1_ f2_ f3_; have f4_ := f1_.symm; have f5_ := f3_.symm; clear f1_ f2_ f3_; subst f4_; subst f5_))
       refine hK.out _ _ ⟨HS0_, HS1_, HS2_, HS3_, HS4_, HS5_, HS6_, HS7_, HS8_, HS9_, HS10_, HS11_, HS12_, HS13_⟩ (fun hHeld => ?_)
       clear hK K
       refine norm_ (a' := ?_) ?_ ?_
       rotate_left
       ·show Act.put _ (some 18) _ = _
        simp only [Act.put, List.setIfInBounds_toArray, List.set_cons_zero, List.set_cons_succ, i64_w, i32_w]
        rfl
       refine pure_ (i := 6) (N := some 19) (v := ?_) (a' := ?_) #[true, true, true, true, true, true, true, false, false, false, false, false, false, false, false, false, false, false, false, false, false, false, false, false, false, false, false] rfl rfl (any_of HT_.out (by kernel_rfl)) (fun _ _ _ h => h) (Or.inl ⟨by rfl, ?_⟩) ?_ ?_
       rotate_left
       ·intro w'
        go_simp
        with_reducible rfl
       rotate_left
       ·simp only [Act.put, List.setIfInBounds_toArray, List.set_cons_zero, List.set_cons_succ, i64_w, i32_w]
        rfl
       refine pure_ (i := 7) (N := some 20) (v := ?_) (a' := ?_) #[true, true, true, true, true, true, true, true, false, false, false, false, false, false, false, false, false, false, false, false, false, false, false, false, false, false, false] rfl rfl (any_of HT_.out (by kernel_rfl)) (fun _ _ _ h => h) (Or.inl ⟨by rfl, ?_⟩) ?_ ?_
       rotate_left
       ·intro w'
        go_simp
        with_reducible rfl
       rotate_left
       ·simp only [Act.put, List.setIfInBounds_toArray, List.set_cons_zero, List.set_cons_succ, i64_w, i32_w]
        rfl
       refine pure_ (i := 8) (N := some 21) (v := ?_) (a' := ?_) #[true, true, true, true, true, true, true, true, true, false, false, false, false, false, false, false, false, false, false, false, false, false, false, false, false, false, false] rfl rfl (any_of HT_.out (by kernel_rfl)) (fun _ _ _ h => h) (Or.inl ⟨by rfl, ?_⟩) ?_ ?_
       rotate_left
       ·intro w'
        go_simp
        with_reducible rfl
       rotate_left
       ·simp only [Act.put, List.setIfInBounds_toArray, List.set_cons_zero, List.set_cons_succ, i64_w, i32_w]
        rfl
       refine pure_ (i := 9) (N := some 22) (v := ?_) (a' := ?_) #[true, true, true, true, true, true, true, true, true, true, false, false, false, false, false, false, false, false, false, false, false, false, false, false, false, false, false] rfl rfl (any_of HT_.out (by kernel_rfl)) (fun _ _ _ h => h) (Or.inl ⟨by rfl, ?_⟩) ?_ ?_
       rotate_left
       ·intro w'
        go_simp
        with_reducible rfl
       rotate_left
       ·simp only [Act.put, List.setIfInBounds_toArray, List.set_cons_zero, List.set_cons_succ, i64_w, i32_w]
        rfl
       refine pure_ (i := 10) (N := some 23) (v := ?_) (a' := ?_) #[true, true, true, true, true, true, true, true, true, true, true, false, false, false, false, false, false, false, false, false, false, false, false, false, false, false, false] rfl rfl (any_of HT_.out (by kernel_rfl)) (fun _ _ _ h => h) (Or.inl ⟨by rfl, ?_⟩) ?_ ?_
       rotate_left
       ·intro w'
        go_simp
        with_reducible rfl
       rotate_left
       ·simp only [Act.put, List.setIfInBounds_toArray, List.set_cons_zero, List.set_cons_succ, i64_w, i32_w]
        rfl
       refine pure_ (i := 11) (N := some 24) (v := ?_) (a' := ?_) #[true, true, true, true, true, true, true, true, true, true, true, true, false, false, false, false, false, false, false, false, false, false, false, false, false, false, false] rfl rfl (any_of HT_.out (by kernel_rfl)) (fun _ _ _ h => h) (Or.inl ⟨by rfl, ?_⟩) ?_ ?_
       rotate_left
       ·intro w'
        go_simp
        with_reducible rfl
       rotate_left
       ·simp only [Act.put, List.setIfInBounds_toArray, List.set_cons_zero, List.set_cons_succ, i64_w, i32_w]
        rfl
       refine pure_ (i := 12) (N := some 25) (v := ?_) (a' := ?_) #[true, true, true, true, true, true, true, true, true, true, true, true, true, false, false, false, false, false, false, false, false, false, false, false, false, false, false] rfl rfl (any_of HT_.out (by kernel_rfl)) (fun _ _ _ h => h) (Or.inl ⟨by rfl, ?_⟩) ?_ ?_
       rotate_left
       ·intro w'
        go_simp
        with_reducible rfl
       rotate_left
       ·simp only [Act.put, List.setIfInBounds_toArray, List.set_cons_zero, List.set_cons_succ, i64_w, i32_w]
        rfl
       refine pure_ (i := 13) (N := some 26) (v := ?_) (a' := ?_) #[true, true, true, true, true, true, true, true, true, true, true, true, true, true, false, false, false, false, false, false, false, false, false, false, false, false, false] rfl rfl (any_of HT_.out (by kernel_rfl)) (fun _ _ _ h => h) (Or.inl ⟨by rfl, ?_⟩) ?_ ?_
       rotate_left
       ·intro w'
        go_simp
        with_reducible rfl
       rotate_left
       ·simp only [Act.put, List.setIfInBounds_toArray, List.set_cons_zero, List.set_cons_succ, i64_w, i32_w]
        rfl
       refine pure_ (i := 14) (N := some 27) (v := ?_) (a' := ?_) #[true, true, true, true, true, true, true, true, true, true, true, true, true, true, true, false, false, false, false, false, false, false, false, false, false, false, false] rfl rfl (any_of HT_.out (by kernel_rfl)) (fun _ _ _ h => h) (Or.inl ⟨by rfl, ?_⟩) ?_ ?_
       rotate_left
       ·intro w'
        go_simp
        with_reducible rfl
       rotate_left
       ·simp only [Act.put, List.setIfInBounds_toArray, List.set_cons_zero, List.set_cons_succ, i64_w, i32_w]
        rfl
       refine pure_ (i := 15) (N := some 28) (v := ?_) (a' := ?_) #[true, true, true, true, true, true, true, true, true, true, true, true, true, true, true, true, false, false, false, false, false, false, false, false, false, false, false] rfl rfl (any_of HT_.out (by kernel_rfl)) (fun _ _ _ h => h) (Or.inl ⟨by rfl, ?_⟩) ?_ ?_
       rotate_left
       ·intro w'
        go_simp
        with_reducible rfl
       rotate_left
       ·simp only [Act.put, List.setIfInBounds_toArray, List.set_cons_zero, List.set_cons_succ, i64_w, i32_w]
        rfl
       refine pure_ (i := 16) (N := some 29) (v := ?_) (a' := ?_) #[true, true, true, true, true, true, true, true, true, true, true, true, true, true, true, true, true, false, false, false, false, false, false, false, false, false, false] rfl rfl (any_of HT_.out (by kernel_rfl)) (fun _ _ _ h => h) (Or.inl ⟨by rfl, ?_⟩) ?_ ?_
       rotate_left
       ·intro w'
        go_simp
        with_reducible rfl
       rotate_left
       ·simp only [Act.put, List.setIfInBounds_toArray, List.set_cons_zero, List.set_cons_succ, i64_w, i32_w]
        rfl
       refine pure_ (i := 17) (N := some 30) (v := ?_) (a' := ?_) #[true, true, true, true, true, true, true, true, true, true, true, true, true, true, true, true, true, true, false, false, false, false, false, false, false, false, false] rfl rfl (any_of HT_.out (by kernel_rfl)) (fun _ _ _ h => h) (Or.inl ⟨by rfl, ?_⟩) ?_ ?_
       rotate_left
       ·intro w'
        go_simp
        with_reducible rfl
       rotate_left
       ·simp only [Act.put, List.setIfInBounds_toArray, List.set_cons_zero, List.set_cons_succ, i64_w, i32_w]
        rfl
       refine pure_ (i := 18) (N := some 31) (v := ?_) (a' := ?_) #[true, true, true, true, true, true, true, true, true, true, true, true, true, true, true, true, true, true, true, false, false, false, false, false, false, false, false] rfl rfl (any_of HT_.out (by kernel_rfl)) (fun _ _ _ h => h) (Or.inl ⟨by rfl, ?_⟩) ?_ ?_
       rotate_left
       ·intro w'
        go_simp
        with_reducible rfl
       rotate_left
       ·simp only [Act.put, List.setIfInBounds_toArray, List.set_cons_zero, List.set_cons_succ, i64_w, i32_w]
        rfl
       refine pure_ (i := 19) (N := some 32) (v := ?_) (a' := ?_) #[true, true, true, true, true, true, true, true, true, true, true, true, true, true, true, true, true, true, true, true, false, false, false, false, false, false, false] rfl rfl (any_of HT_.out (by kernel_rfl)) (fun _ _ _ h => h) (Or.inl ⟨by rfl, ?_⟩) ?_ ?_
       rotate_left
       ·intro w'
        go_simp
        with_reducible rfl
       rotate_left
       ·simp only [Act.put, List.setIfInBounds_toArray, List.set_cons_zero, List.set_cons_succ, i64_w, i32_w]
        rfl
       refine pure_ (i := 21) (N := some 34) (v := ?_) (a' := ?_) #[true, true, true, true, true, true, true, true, true, true, true, true, true, true, true, true, true, true, true, true, false, true, false, false, false, false, false] rfl rfl (any_of HT_.out (by kernel_rfl)) (fun _ _ _ h => h) (Or.inl ⟨by rfl, ?_⟩) ?_ ?_
       rotate_left
       ·intro w'
        go_simp
        with_reducible rfl
       rotate_left
       ·simp only [Act.put, List.setIfInBounds_toArray, List.set_cons_zero, List.set_cons_succ, i64_w, i32_w]
        rfl
       refine pure_ (i := 22) (N := some 35) (v := ?_) (a' := ?_) #[true, true, true, true, true, true, true, true, true, true, true, true, true, true, true, true, true, true, true, true, false, true, true, false, false, false, false] rfl rfl (any_of HT_.out (by kernel_rfl)) (fun _ _ _ h => h) (Or.inl ⟨by rfl, ?_⟩) ?_ ?_
       rotate_left
       ·intro w'
        go_simp
        with_reducible rfl
       rotate_left
       ·simp only [Act.put, List.setIfInBounds_toArray, List.set_cons_zero, List.set_cons_succ, i64_w, i32_w]
        rfl
       refine take_ (i := 20) (N := some 33) (v := ?_) (a' := ?_) #[true, true, true, true, true, true, true, true, true, true, true, true, true, true, true, true, true, true, true, true, true, true, true, false, false, false, false] rfl rfl (take_ofW HT_.out HW_.out (by kernel_rfl)) (fun _ _ _ h => h) (Or.inl ⟨by rfl, ?_⟩) hHeld ?_ ?_
       rotate_left
       ·rintro w' ⟨s0, s1, s2, s3, s4, s5, s6, s7, s8, s9, s10, s11, s12, s13⟩
        go_simp
        with_reducible rfl
       rotate_left
       ·simp only [Act.put, List.setIfInBounds_toArray, List.set_cons_zero, List.set_cons_succ, i64_w, i32_w]
        rfl
       refine take_ (i := 23) (N := some 36) (v := ?_) (a' := ?_) #[true, true, true, true, true, true, true, true, true, true, true, true, true, true, true, true, true, true, true, true, true, true, true, true, false, false, false] rfl rfl (take_ofW HT_.out HW_.out (by kernel_rfl)) (fun _ _ _ h => h) (Or.inl ⟨by rfl, ?_⟩) hHeld ?_ ?_
       rotate_left
       ·rintro w' ⟨s0, s1, s2, s3, s4, s5, s6, s7, s8, s9, s10, s11, s12, s13⟩
        go_simp
        with_reducible rfl
       rotate_left
       ·simp only [Act.put, List.setIfInBounds_toArray, List.set_cons_zero, List.set_cons_succ, i64_w, i32_w]
        rfl
       refine pure_ (i := 24) (N := some 37) (v := ?_) (a' := ?_) #[true, true, true, true, true, true, true, true, true, true, true, true, true, true, true, true, true, true, true, true, true, true, true, true, true, false, false] rfl rfl (any_of HT_.out (by kernel_rfl)) (fun _ _ _ h => h) (Or.inl ⟨by rfl, ?_⟩) ?_ ?_
       rotate_left
       ·intro w'
        go_simp
        with_reducible rfl
       rotate_left
       ·simp only [Act.put, List.setIfInBounds_toArray, List.set_cons_zero, List.set_cons_succ, i64_w, i32_w]
        rfl
       refine pure_ (i := 25) (N := some 38) (v := ?_) (a' := ?_) #[true, true, true, true, true, true, true, true, true, true, true, true, true, true, true, true, true, true, true, true, true, true, true, true, true, true, false] rfl rfl (any_of HT_.out (by kernel_rfl)) (fun _ _ _ h => h) (Or.inl ⟨by rfl, ?_⟩) ?_ ?_
       rotate_left
       ·intro w'
        go_simp
        with_reducible rfl
       rotate_left
       ·simp only [Act.put, List.setIfInBounds_toArray, List.set_cons_zero, List.set_cons_succ, i64_w, i32_w]
        rfl
       refine pure_ (i := 26) (N := some 0) (v := ?_) (a' := ?_) #[true, true, true, true, true, true, true, true, true, true, true, true, true, true, true, true, true, true, true, true, true, true, true, true, true, true, true] rfl rfl (any_of HT_.out (by kernel_rfl)) (fun _ _ _ h => h) (Or.inl ⟨by rfl, ?_⟩) ?_ ?_
       rotate_left
       ·intro w'
        go_simp
        with_reducible rfl
       rotate_left
       ·simp only [Act.put, List.setIfInBounds_toArray, List.set_cons_zero, List.set_cons_succ, i64_w, i32_w]
        rfl
       refine done_ (done_of HT_.out (by kernel_rfl)) ?_
       try go_wp2
       go_ret
       exact ⟨by first | rfl | (simp [errW_none, errW_some] <;> rfl) | (simp [*, errW_none, errW_some] <;> rfl), by repeat (first | (with_reducible first | exact HB.out | apply below_alloc | apply pw_below_drewN | apply below_drew1) | exact HB.out)⟩
      ·rw [if_neg c10] at H
       exact absurd H (by simp)
     ·rw [if_neg c9] at H
      exact absurd H (by simp)
    ·rw [if_neg c8] at H
     exact absurd H (by simp)
   ·rw [if_neg c7] at H
    exact absurd H (by simp)
  ·rw [if_neg c6] at H
   exact absurd H (by simp)
 ·rw [if_neg c4] at H
  exact absurd H (by simp)

end Go.Proofs.YtdpomgfibjlehaaDoor.PTr
