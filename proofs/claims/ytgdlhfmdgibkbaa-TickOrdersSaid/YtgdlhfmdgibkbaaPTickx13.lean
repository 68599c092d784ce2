/- By a program of this session (the print, with contracts written by hand let in), key Tick: what the functions come to as Lean functions, and the contracts that lead from the Go code to them. Conditions: those of the statements. -/
import Derived.Test.YtgdlhfmdgibkbaaPTickx0
import Derived.Test.YtgdlhfmdgibkbaaPTickx3
import Derived.Test.YtgdlhfmdgibkbaaPTickx5
import Derived.Test.YtgdlhfmdgibkbaaPTickx6
import Derived.Test.YtgdlhfmdgibkbaaPTickx7
import Derived.Test.YtgdlhfmdgibkbaaPTickx11
import Derived.Test.YtgdlhfmdgibkbaaSort
namespace Go.Proofs.Ytgdlhfmdgibkbaa.PTick
open Go.RowKit Go.Proofs.YtgdlhfmdgibkbaaW.PrintWords Go.Proofs.YtgdlhfmdgibkbaaW.PrintLast Go.Proofs.YtgdlhfmdgibkbaaW.PrintMore
attribute [local go_sem] max2_int min2_int max_two min_two max_three min_three max_four min_four   -- for this text's walks alone
set_option linter.unusedVariables false
set_option linter.unusedSimpArgs false

/-! ### berthingref01_Sub: function 30 -/
def berthingref01_Sub.f (a0 : Int) (a1 : Int) : Option (Int) := (berthingref01_Clamp.f a0).bind fun t371 => ((berthingref01_Clamp.f a1).bind fun t372 => (if t371 = 1099511627776 then (if t372 < 1099511627776 then (some 1099511627776) else ((berthingref01_Clamp.f (wrap64 (t371 - t372))).bind fun t373 => (some t373))) else ((berthingref01_Clamp.f (wrap64 (t371 - t372))).bind fun t374 => (some t374))))
set_option maxHeartbeats 8000000 in
set_option maxRecDepth 100000 in
theorem berthingref01_Sub.calls (a0 : Int) (a1 : Int) (r : Int) (w : World) (h : berthingref01_Sub.f a0 a1 = some r) :
  Calls Try.prog 30 #[.int .i64 a0, .int .i64 a1] w fun e w' => e = .returned (.int .i64 r) ∧ Drawn0 w w' := by
 have H : ((berthingref01_Clamp.f a0).bind fun t371 => ((berthingref01_Clamp.f a1).bind fun t372 => (if t371 = 1099511627776 then (if t372 < 1099511627776 then (some 1099511627776) else ((berthingref01_Clamp.f (wrap64 (t371 - t372))).bind fun t373 => (some t373))) else ((berthingref01_Clamp.f (wrap64 (t371 - t372))).bind fun t374 => (some t374))))) = some r := h
 clear h
 replace H := Option.bind_eq_some_iff.mp H
 obtain ⟨t371, A30, H⟩ := H
 replace H : ((berthingref01_Clamp.f a1).bind fun t372 => (if t371 = 1099511627776 then (if t372 < 1099511627776 then (some 1099511627776) else ((berthingref01_Clamp.f (wrap64 (t371 - t372))).bind fun t373 => (some t373))) else ((berthingref01_Clamp.f (wrap64 (t371 - t372))).bind fun t374 => (some t374)))) = some r := H
 have A3 := Aside0.mk A30
 clear A30
 replace H := Option.bind_eq_some_iff.mp H
 obtain ⟨t372, A40, H⟩ := H
 replace H : (if t371 = 1099511627776 then (if t372 < 1099511627776 then (some 1099511627776) else ((berthingref01_Clamp.f (wrap64 (t371 - t372))).bind fun t373 => (some t373))) else ((berthingref01_Clamp.f (wrap64 (t371 - t372))).bind fun t374 => (some t374))) = some r := H
 have A4 := Aside0.mk A40
 clear A40
 by_cases c5 : t371 = 1099511627776
 ·rw [if_pos c5] at H
  have c5b0 : (t371 == 1099511627776) = true := beq_iff_eq.mpr c5
  have c5b1 : (t371 != 1099511627776) = false := bne_eq_false_iff_eq.mpr c5
  clear c5
  by_cases c6 : t372 < 1099511627776
  ·rw [if_pos c6] at H
   have c6b0 : decide (t372 < 1099511627776) = true := decide_eq_true c6
   clear c6
   obtain rfl := Option.some.inj H
   go_enter Try.func30, Try.ntmps30
   go_wp2_with (first | ((with_reducible refine gate_callee (f := 28) rfl ?_); refine goesL_ (some 6) rfl rfl Try.func28 (by kernel_rfl) rfl #[.int .i64 a0] rfl (by (try simp only [List.map_toArray, List.map_cons, List.map_nil]); first | done | rfl | (simp only [List.length_drop, List.length_take]; rfl)) ?_; (with_reducible refine (berthingref01_Clamp.calls a0 t371 _ A3.out).mono ?_); rintro e w' ⟨rfl, ⟨nd, rfl⟩⟩; refine ⟨_, rfl, ?_⟩) | ((with_reducible refine gate_callee (f := 28) rfl ?_); refine goesL_ (some 8) rfl rfl Try.func28 (by kernel_rfl) rfl #[.int .i64 a1] rfl (by (try simp only [List.map_toArray, List.map_cons, List.map_nil]); first | done | rfl | (simp only [List.length_drop, List.length_take]; rfl)) ?_; (with_reducible refine (berthingref01_Clamp.calls a1 t372 _ A4.out).mono ?_); rintro e w' ⟨rfl, ⟨nd, rfl⟩⟩; refine ⟨_, rfl, ?_⟩))
   go_ret
   exact ⟨by first | rfl | (simp; done) | (simp [*]; done), by repeat (first | exact Drawn0.refl _ | apply Drawn0.step)⟩
  ·rw [if_neg c6] at H
   have c6b0 : decide (t372 < 1099511627776) = false := decide_eq_false c6
   clear c6
   replace H := Option.bind_eq_some_iff.mp H
   obtain ⟨t373, A70, H⟩ := H
   replace H : (some t373) = some r := H
   have A7 := Aside0.mk A70
   clear A70
   obtain rfl := Option.some.inj H
   go_enter Try.func30, Try.ntmps30
   go_wp2_with (first | ((with_reducible refine gate_callee (f := 28) rfl ?_); refine goesL_ (some 6) rfl rfl Try.func28 (by kernel_rfl) rfl #[.int .i64 a0] rfl (by (try simp only [List.map_toArray, List.map_cons, List.map_nil]); first | done | rfl | (simp only [List.length_drop, List.length_take]; rfl)) ?_; (with_reducible refine (berthingref01_Clamp.calls a0 t371 _ A3.out).mono ?_); rintro e w' ⟨rfl, ⟨nd, rfl⟩⟩; refine ⟨_, rfl, ?_⟩) | ((with_reducible refine gate_callee (f := 28) rfl ?_); refine goesL_ (some 8) rfl rfl Try.func28 (by kernel_rfl) rfl #[.int .i64 a1] rfl (by (try simp only [List.map_toArray, List.map_cons, List.map_nil]); first | done | rfl | (simp only [List.length_drop, List.length_take]; rfl)) ?_; (with_reducible refine (berthingref01_Clamp.calls a1 t372 _ A4.out).mono ?_); rintro e w' ⟨rfl, ⟨nd, rfl⟩⟩; refine ⟨_, rfl, ?_⟩) | ((with_reducible refine gate_callee (f := 28) rfl ?_); refine goesL_ (some 18) rfl rfl Try.func28 (by kernel_rfl) rfl #[.int .i64 (wrap64 (t371 - t372))] rfl (by (try simp only [List.map_toArray, List.map_cons, List.map_nil]); first | done | rfl | (simp only [List.length_drop, List.length_take]; rfl)) ?_; (with_reducible refine (berthingref01_Clamp.calls (wrap64 (t371 - t372)) t373 _ A7.out).mono ?_); rintro e w' ⟨rfl, ⟨nd, rfl⟩⟩; refine ⟨_, rfl, ?_⟩))
   go_ret
   exact ⟨by first | rfl | (simp; done) | (simp [*]; done), by repeat (first | exact Drawn0.refl _ | apply Drawn0.step)⟩
 ·rw [if_neg c5] at H
  have c5b0 : (t371 == 1099511627776) = false := beq_eq_false_iff_ne.mpr c5
  have c5b1 : (t371 != 1099511627776) = true := bne_iff_ne.mpr c5
  replace H := Option.bind_eq_some_iff.mp H
  obtain ⟨t374, A80, H⟩ := H
  replace H : (some t374) = some r := H
  have A8 := Aside0.mk A80
  clear A80
  obtain rfl := Option.some.inj H
  go_enter Try.func30, Try.ntmps30
  go_wp2_with (first | ((with_reducible refine gate_callee (f := 28) rfl ?_); refine goesL_ (some 6) rfl rfl Try.func28 (by kernel_rfl) rfl #[.int .i64 a0] rfl (by (try simp only [List.map_toArray, List.map_cons, List.map_nil]); first | done | rfl | (simp only [List.length_drop, List.length_take]; rfl)) ?_; (with_reducible refine (berthingref01_Clamp.calls a0 t371 _ A3.out).mono ?_); rintro e w' ⟨rfl, ⟨nd, rfl⟩⟩; refine ⟨_, rfl, ?_⟩) | ((with_reducible refine gate_callee (f := 28) rfl ?_); refine goesL_ (some 8) rfl rfl Try.func28 (by kernel_rfl) rfl #[.int .i64 a1] rfl (by (try simp only [List.map_toArray, List.map_cons, List.map_nil]); first | done | rfl | (simp only [List.length_drop, List.length_take]; rfl)) ?_; (with_reducible refine (berthingref01_Clamp.calls a1 t372 _ A4.out).mono ?_); rintro e w' ⟨rfl, ⟨nd, rfl⟩⟩; refine ⟨_, rfl, ?_⟩) | ((with_reducible refine gate_callee (f := 28) rfl ?_); refine goesL_ (some 18) rfl rfl Try.func28 (by kernel_rfl) rfl #[.int .i64 (wrap64 (t371 - t372))] rfl (by (try simp only [List.map_toArray, List.map_cons, List.map_nil]); first | done | rfl | (simp only [List.length_drop, List.length_take]; rfl)) ?_; (with_reducible refine (berthingref01_Clamp.calls (wrap64 (t371 - t372)) t374 _ A8.out).mono ?_); rintro e w' ⟨rfl, ⟨nd, rfl⟩⟩; refine ⟨_, rfl, ?_⟩))
  go_ret
  exact ⟨by first | rfl | (simp; done) | (simp [*]; done), by repeat (first | exact Drawn0.refl _ | apply Drawn0.step)⟩

/-! ### berthingref01_Times: function 31 -/
def berthingref01_Times.f (a0 : Int) (a1 : Int) : Option (Int) := (berthingref01_Clamp.f a0).bind fun t375 => (if a1 < 1 then (some 0) else (if t375 = 0 then (some 0) else (if a1 > (wrap64 ((1099511627776 : Int) / t375)) then (some 1099511627776) else (some (wrap64 (t375 * a1))))))
set_option maxHeartbeats 8000000 in
set_option maxRecDepth 100000 in
theorem berthingref01_Times.calls (a0 : Int) (a1 : Int) (r : Int) (w : World) (h : berthingref01_Times.f a0 a1 = some r) :
  Calls Try.prog 31 #[.int .i64 a0, .int .i64 a1] w fun e w' => e = .returned (.int .i64 r) ∧ Drawn0 w w' := by
 have H : ((berthingref01_Clamp.f a0).bind fun t375 => (if a1 < 1 then (some 0) else (if t375 = 0 then (some 0) else (if a1 > (wrap64 ((1099511627776 : Int) / t375)) then (some 1099511627776) else (some (wrap64 (t375 * a1))))))) = some r := h
 clear h
 replace H := Option.bind_eq_some_iff.mp H
 obtain ⟨t375, A30, H⟩ := H
 replace H : (if a1 < 1 then (some 0) else (if t375 = 0 then (some 0) else (if a1 > (wrap64 ((1099511627776 : Int) / t375)) then (some 1099511627776) else (some (wrap64 (t375 * a1)))))) = some r := H
 have A3 := Aside0.mk A30
 clear A30
 by_cases c4 : a1 < 1
 ·rw [if_pos c4] at H
  have c4b0 : decide (a1 < 1) = true := decide_eq_true c4
  clear c4
  obtain rfl := Option.some.inj H
  go_enter Try.func31, Try.ntmps31
  go_wp2_with (first | ((with_reducible refine gate_callee (f := 28) rfl ?_); refine goesL_ (some 6) rfl rfl Try.func28 (by kernel_rfl) rfl #[.int .i64 a0] rfl (by (try simp only [List.map_toArray, List.map_cons, List.map_nil]); first | done | rfl | (simp only [List.length_drop, List.length_take]; rfl)) ?_; (with_reducible refine (berthingref01_Clamp.calls a0 t375 _ A3.out).mono ?_); rintro e w' ⟨rfl, ⟨nd, rfl⟩⟩; refine ⟨_, rfl, ?_⟩))
  go_ret
  exact ⟨by first | rfl | (simp; done) | (simp [*]; done), by repeat (first | exact Drawn0.refl _ | apply Drawn0.step)⟩
 ·rw [if_neg c4] at H
  have c4b0 : decide (a1 < 1) = false := decide_eq_false c4
  clear c4
  by_cases c5 : t375 = 0
  ·rw [if_pos c5] at H
   have c5b0 : (t375 == 0) = true := beq_iff_eq.mpr c5
   have c5b1 : (t375 != 0) = false := bne_eq_false_iff_eq.mpr c5
   clear c5
   obtain rfl := Option.some.inj H
   go_enter Try.func31, Try.ntmps31
   go_wp2_with (first | ((with_reducible refine gate_callee (f := 28) rfl ?_); refine goesL_ (some 6) rfl rfl Try.func28 (by kernel_rfl) rfl #[.int .i64 a0] rfl (by (try simp only [List.map_toArray, List.map_cons, List.map_nil]); first | done | rfl | (simp only [List.length_drop, List.length_take]; rfl)) ?_; (with_reducible refine (berthingref01_Clamp.calls a0 t375 _ A3.out).mono ?_); rintro e w' ⟨rfl, ⟨nd, rfl⟩⟩; refine ⟨_, rfl, ?_⟩))
   go_ret
   exact ⟨by first | rfl | (simp; done) | (simp [*]; done), by repeat (first | exact Drawn0.refl _ | apply Drawn0.step)⟩
  ·rw [if_neg c5] at H
   have c5b0 : (t375 == 0) = false := beq_eq_false_iff_ne.mpr c5
   have c5b1 : (t375 != 0) = true := bne_iff_ne.mpr c5
   have htd : Int.tdiv 1099511627776 t375 = (1099511627776 : Int) / t375 := Int.tdiv_eq_ediv_of_nonneg (by decide)
   by_cases c6 : a1 > (wrap64 ((1099511627776 : Int) / t375))
   ·rw [if_pos c6] at H
    have c6b0 : decide ((wrap64 ((1099511627776 : Int) / t375)) < a1) = true := decide_eq_true c6
    clear c6
    obtain rfl := Option.some.inj H
    go_enter Try.func31, Try.ntmps31
    go_wp2_with (first | ((with_reducible refine gate_callee (f := 28) rfl ?_); refine goesL_ (some 6) rfl rfl Try.func28 (by kernel_rfl) rfl #[.int .i64 a0] rfl (by (try simp only [List.map_toArray, List.map_cons, List.map_nil]); first | done | rfl | (simp only [List.length_drop, List.length_take]; rfl)) ?_; (with_reducible refine (berthingref01_Clamp.calls a0 t375 _ A3.out).mono ?_); rintro e w' ⟨rfl, ⟨nd, rfl⟩⟩; refine ⟨_, rfl, ?_⟩))
    go_ret
    exact ⟨by first | rfl | (simp; done) | (simp [*]; done), by repeat (first | exact Drawn0.refl _ | apply Drawn0.step)⟩
   ·rw [if_neg c6] at H
    have c6b0 : decide ((wrap64 ((1099511627776 : Int) / t375)) < a1) = false := decide_eq_false c6
    clear c6
    obtain rfl := Option.some.inj H
    go_enter Try.func31, Try.ntmps31
    go_wp2_with (first | ((with_reducible refine gate_callee (f := 28) rfl ?_); refine goesL_ (some 6) rfl rfl Try.func28 (by kernel_rfl) rfl #[.int .i64 a0] rfl (by (try simp only [List.map_toArray, List.map_cons, List.map_nil]); first | done | rfl | (simp only [List.length_drop, List.length_take]; rfl)) ?_; (with_reducible refine (berthingref01_Clamp.calls a0 t375 _ A3.out).mono ?_); rintro e w' ⟨rfl, ⟨nd, rfl⟩⟩; refine ⟨_, rfl, ?_⟩))
    go_ret
    exact ⟨by first | rfl | (simp; done) | (simp [*]; done), by repeat (first | exact Drawn0.refl _ | apply Drawn0.step)⟩

/-! ### tick_Up: function 32 -/
def tick_Up.f (a0 : Int) (a1 : Int) : Option (Int) := (tick_Clamp.f a0).bind fun t376 => (if a1 < 1 then (some t376) else (if t376 = 1099511627776 then (some t376) else (if a1 = 0 then (none) else (if (Int.tmod t376 a1) = 0 then (some t376) else ((tick_Add.f t376 (wrap64 (a1 - (Int.tmod t376 a1)))).bind fun t377 => (some t377))))))
set_option maxHeartbeats 8000000 in
set_option maxRecDepth 100000 in
theorem tick_Up.calls (a0 : Int) (a1 : Int) (r : Int) (w : World) (h : tick_Up.f a0 a1 = some r) :
  Calls Try.prog 32 #[.int .i64 a0, .int .i64 a1] w fun e w' => e = .returned (.int .i64 r) ∧ Below w.heap.size w w' := by
 have HB := Aside0.mk (Below.refl w.heap.size w)
 have H : ((tick_Clamp.f a0).bind fun t376 => (if a1 < 1 then (some t376) else (if t376 = 1099511627776 then (some t376) else (if a1 = 0 then (none) else (if (Int.tmod t376 a1) = 0 then (some t376) else ((tick_Add.f t376 (wrap64 (a1 - (Int.tmod t376 a1)))).bind fun t377 => (some t377))))))) = some r := h
 clear h
 replace H := Option.bind_eq_some_iff.mp H
 obtain ⟨t376, A30, H⟩ := H
 replace H : (if a1 < 1 then (some t376) else (if t376 = 1099511627776 then (some t376) else (if a1 = 0 then (none) else (if (Int.tmod t376 a1) = 0 then (some t376) else ((tick_Add.f t376 (wrap64 (a1 - (Int.tmod t376 a1)))).bind fun t377 => (some t377)))))) = some r := H
 have A3 := Aside0.mk A30
 clear A30
 by_cases c4 : a1 < 1
 ·rw [if_pos c4] at H
  have c4b0 : decide (a1 < 1) = true := decide_eq_true c4
  clear c4
  obtain rfl := Option.some.inj H
  go_enter Try.func32, Try.ntmps32
  go_wp2_with (first | ((with_reducible refine gate_callee (f := 14) rfl ?_); refine goesL_ (some 7) rfl rfl Try.func14 (by kernel_rfl) rfl #[.int .i64 a0] rfl (by (try simp only [List.map_toArray, List.map_cons, List.map_nil]); first | done | rfl | (simp only [List.length_drop, List.length_take]; rfl)) ?_; (with_reducible refine (tick_Clamp.calls a0 t376 _ A3.out).mono ?_); rintro e w5 ⟨rfl, hb⟩; refine ⟨_, rfl, ?_⟩; have n0_ := Aside0.mk (below_step (by repeat (first | (with_reducible first | exact HB.out | apply below_alloc | apply pw_below_drewN | apply below_drew1) | exact HB.out)) hb); clear HB; have HB := n0_; clear n0_; (try clear hb); (try clear hb2); (try clear hk); (try clear hi)))
  go_ret
  exact ⟨by first | rfl | (simp [errW_none, errW_some] <;> rfl) | (simp [*, errW_none, errW_some] <;> rfl), by repeat (first | (with_reducible first | exact HB.out | apply below_alloc | apply pw_below_drewN | apply below_drew1) | exact HB.out)⟩
 ·rw [if_neg c4] at H
  have c4b0 : decide (a1 < 1) = false := decide_eq_false c4
  clear c4
  by_cases c6 : t376 = 1099511627776
  ·rw [if_pos c6] at H
   have c6b0 : (t376 == 1099511627776) = true := beq_iff_eq.mpr c6
   have c6b1 : (t376 != 1099511627776) = false := bne_eq_false_iff_eq.mpr c6
   clear c6
   obtain rfl := Option.some.inj H
   go_enter Try.func32, Try.ntmps32
   go_wp2_with (first | ((with_reducible refine gate_callee (f := 14) rfl ?_); refine goesL_ (some 7) rfl rfl Try.func14 (by kernel_rfl) rfl #[.int .i64 a0] rfl (by (try simp only [List.map_toArray, List.map_cons, List.map_nil]); first | done | rfl | (simp only [List.length_drop, List.length_take]; rfl)) ?_; (with_reducible refine (tick_Clamp.calls a0 t376 _ A3.out).mono ?_); rintro e w7 ⟨rfl, hb⟩; refine ⟨_, rfl, ?_⟩; have n0_ := Aside0.mk (below_step (by repeat (first | (with_reducible first | exact HB.out | apply below_alloc | apply pw_below_drewN | apply below_drew1) | exact HB.out)) hb); clear HB; have HB := n0_; clear n0_; (try clear hb); (try clear hb2); (try clear hk); (try clear hi)))
   go_ret
   exact ⟨by first | rfl | (simp [errW_none, errW_some] <;> rfl) | (simp [*, errW_none, errW_some] <;> rfl), by repeat (first | (with_reducible first | exact HB.out | apply below_alloc | apply pw_below_drewN | apply below_drew1) | exact HB.out)⟩
  ·rw [if_neg c6] at H
   have c6b0 : (t376 == 1099511627776) = false := beq_eq_false_iff_ne.mpr c6
   have c6b1 : (t376 != 1099511627776) = true := bne_iff_ne.mpr c6
   by_cases c8 : a1 = 0
   ·rw [if_pos c8] at H
    exact absurd H (by simp)
   ·rw [if_neg c8] at H
    have c8b0 : (a1 == 0) = false := beq_eq_false_iff_ne.mpr c8
    have c8b1 : (a1 != 0) = true := bne_iff_ne.mpr c8
    by_cases c9 : (Int.tmod t376 a1) = 0
    ·rw [if_pos c9] at H
     have c9b0 : ((Int.tmod t376 a1) == 0) = true := beq_iff_eq.mpr c9
     have c9b1 : ((Int.tmod t376 a1) != 0) = false := bne_eq_false_iff_eq.mpr c9
     clear c9
     obtain rfl := Option.some.inj H
     go_enter Try.func32, Try.ntmps32
     go_wp2_with (first | ((with_reducible refine gate_callee (f := 14) rfl ?_); refine goesL_ (some 7) rfl rfl Try.func14 (by kernel_rfl) rfl #[.int .i64 a0] rfl (by (try simp only [List.map_toArray, List.map_cons, List.map_nil]); first | done | rfl | (simp only [List.length_drop, List.length_take]; rfl)) ?_; (with_reducible refine (tick_Clamp.calls a0 t376 _ A3.out).mono ?_); rintro e w10 ⟨rfl, hb⟩; refine ⟨_, rfl, ?_⟩; have n0_ := Aside0.mk (below_step (by repeat (first | (with_reducible first | exact HB.out | apply below_alloc | apply pw_below_drewN | apply below_drew1) | exact HB.out)) hb); clear HB; have HB := n0_; clear n0_; (try clear hb); (try clear hb2); (try clear hk); (try clear hi)))
     go_ret
     exact ⟨by first | rfl | (simp [errW_none, errW_some] <;> rfl) | (simp [*, errW_none, errW_some] <;> rfl), by repeat (first | (with_reducible first | exact HB.out | apply below_alloc | apply pw_below_drewN | apply below_drew1) | exact HB.out)⟩
    ·rw [if_neg c9] at H
     have c9b0 : ((Int.tmod t376 a1) == 0) = false := beq_eq_false_iff_ne.mpr c9
     have c9b1 : ((Int.tmod t376 a1) != 0) = true := bne_iff_ne.mpr c9
     replace H := Option.bind_eq_some_iff.mp H
     obtain ⟨t377, A110, H⟩ := H
     replace H : (some t377) = some r := H
     have A11 := Aside0.mk A110
     clear A110
     obtain rfl := Option.some.inj H
     go_enter Try.func32, Try.ntmps32
     go_wp2_with (first | ((with_reducible refine gate_callee (f := 14) rfl ?_); refine goesL_ (some 7) rfl rfl Try.func14 (by kernel_rfl) rfl #[.int .i64 a0] rfl (by (try simp only [List.map_toArray, List.map_cons, List.map_nil]); first | done | rfl | (simp only [List.length_drop, List.length_take]; rfl)) ?_; (with_reducible refine (tick_Clamp.calls a0 t376 _ A3.out).mono ?_); rintro e w12 ⟨rfl, hb⟩; refine ⟨_, rfl, ?_⟩; have n0_ := Aside0.mk (below_step (by repeat (first | (with_reducible first | exact HB.out | apply below_alloc | apply pw_below_drewN | apply below_drew1) | exact HB.out)) hb); clear HB; have HB := n0_; clear n0_; (try clear hb); (try clear hb2); (try clear hk); (try clear hi)) | ((with_reducible refine gate_callee (f := 13) rfl ?_); refine goesL_ (some 24) rfl rfl Try.func13 (by kernel_rfl) rfl #[.int .i64 t376, .int .i64 (wrap64 (a1 - (Int.tmod t376 a1)))] rfl (by (try simp only [List.map_toArray, List.map_cons, List.map_nil]); first | done | rfl | (simp only [List.length_drop, List.length_take]; rfl)) ?_; (with_reducible refine (tick_Add.calls t376 (wrap64 (a1 - (Int.tmod t376 a1))) t377 _ A11.out).mono ?_); rintro e w13 ⟨rfl, hb⟩; refine ⟨_, rfl, ?_⟩; have n0_ := Aside0.mk (below_step (by repeat (first | (with_reducible first | exact HB.out | apply below_alloc | apply pw_below_drewN | apply below_drew1) | exact HB.out)) hb); clear HB; have HB := n0_; clear n0_; (try clear hb); (try clear hb2); (try clear hk); (try clear hi)))
     go_ret
     exact ⟨by first | rfl | (simp [errW_none, errW_some] <;> rfl) | (simp [*, errW_none, errW_some] <;> rfl), by repeat (first | (with_reducible first | exact HB.out | apply below_alloc | apply pw_below_drewN | apply below_drew1) | exact HB.out)⟩

/-! ### berthingref01_Up: function 33 -/
def berthingref01_Up.f (a0 : Int) (a1 : Int) : Option (Int) := (berthingref01_Clamp.f a0).bind fun t378 => (if a1 < 1 then (some t378) else (if t378 = 1099511627776 then (some t378) else (if a1 = 0 then (none) else (if (Int.tmod t378 a1) = 0 then (some t378) else (if a1 ≥ 1099511627776 then (some 1099511627776) else ((berthingref01_Clamp.f (wrap64 ((wrap64 (t378 - (Int.tmod t378 a1))) + a1))).bind fun t379 => (some t379)))))))
set_option maxHeartbeats 8000000 in
set_option maxRecDepth 100000 in
theorem berthingref01_Up.calls (a0 : Int) (a1 : Int) (r : Int) (w : World) (h : berthingref01_Up.f a0 a1 = some r) :
  Calls Try.prog 33 #[.int .i64 a0, .int .i64 a1] w fun e w' => e = .returned (.int .i64 r) ∧ Drawn0 w w' := by
 have H : ((berthingref01_Clamp.f a0).bind fun t378 => (if a1 < 1 then (some t378) else (if t378 = 1099511627776 then (some t378) else (if a1 = 0 then (none) else (if (Int.tmod t378 a1) = 0 then (some t378) else (if a1 ≥ 1099511627776 then (some 1099511627776) else ((berthingref01_Clamp.f (wrap64 ((wrap64 (t378 - (Int.tmod t378 a1))) + a1))).bind fun t379 => (some t379)))))))) = some r := h
 clear h
 replace H := Option.bind_eq_some_iff.mp H
 obtain ⟨t378, A30, H⟩ := H
 replace H : (if a1 < 1 then (some t378) else (if t378 = 1099511627776 then (some t378) else (if a1 = 0 then (none) else (if (Int.tmod t378 a1) = 0 then (some t378) else (if a1 ≥ 1099511627776 then (some 1099511627776) else ((berthingref01_Clamp.f (wrap64 ((wrap64 (t378 - (Int.tmod t378 a1))) + a1))).bind fun t379 => (some t379))))))) = some r := H
 have A3 := Aside0.mk A30
 clear A30
 by_cases c4 : a1 < 1
 ·rw [if_pos c4] at H
  have c4b0 : decide (a1 < 1) = true := decide_eq_true c4
  clear c4
  obtain rfl := Option.some.inj H
  go_enter Try.func33, Try.ntmps33
  go_wp2_with (first | ((with_reducible refine gate_callee (f := 28) rfl ?_); refine goesL_ (some 6) rfl rfl Try.func28 (by kernel_rfl) rfl #[.int .i64 a0] rfl (by (try simp only [List.map_toArray, List.map_cons, List.map_nil]); first | done | rfl | (simp only [List.length_drop, List.length_take]; rfl)) ?_; (with_reducible refine (berthingref01_Clamp.calls a0 t378 _ A3.out).mono ?_); rintro e w' ⟨rfl, ⟨nd, rfl⟩⟩; refine ⟨_, rfl, ?_⟩))
  go_ret
  exact ⟨by first | rfl | (simp; done) | (simp [*]; done), by repeat (first | exact Drawn0.refl _ | apply Drawn0.step)⟩
 ·rw [if_neg c4] at H
  have c4b0 : decide (a1 < 1) = false := decide_eq_false c4
  clear c4
  by_cases c5 : t378 = 1099511627776
  ·rw [if_pos c5] at H
   have c5b0 : (t378 == 1099511627776) = true := beq_iff_eq.mpr c5
   have c5b1 : (t378 != 1099511627776) = false := bne_eq_false_iff_eq.mpr c5
   clear c5
   obtain rfl := Option.some.inj H
   go_enter Try.func33, Try.ntmps33
   go_wp2_with (first | ((with_reducible refine gate_callee (f := 28) rfl ?_); refine goesL_ (some 6) rfl rfl Try.func28 (by kernel_rfl) rfl #[.int .i64 a0] rfl (by (try simp only [List.map_toArray, List.map_cons, List.map_nil]); first | done | rfl | (simp only [List.length_drop, List.length_take]; rfl)) ?_; (with_reducible refine (berthingref01_Clamp.calls a0 t378 _ A3.out).mono ?_); rintro e w' ⟨rfl, ⟨nd, rfl⟩⟩; refine ⟨_, rfl, ?_⟩))
   go_ret
   exact ⟨by first | rfl | (simp; done) | (simp [*]; done), by repeat (first | exact Drawn0.refl _ | apply Drawn0.step)⟩
  ·rw [if_neg c5] at H
   have c5b0 : (t378 == 1099511627776) = false := beq_eq_false_iff_ne.mpr c5
   have c5b1 : (t378 != 1099511627776) = true := bne_iff_ne.mpr c5
   by_cases c6 : a1 = 0
   ·rw [if_pos c6] at H
    exact absurd H (by simp)
   ·rw [if_neg c6] at H
    have c6b0 : (a1 == 0) = false := beq_eq_false_iff_ne.mpr c6
    have c6b1 : (a1 != 0) = true := bne_iff_ne.mpr c6
    by_cases c7 : (Int.tmod t378 a1) = 0
    ·rw [if_pos c7] at H
     have c7b0 : ((Int.tmod t378 a1) == 0) = true := beq_iff_eq.mpr c7
     have c7b1 : ((Int.tmod t378 a1) != 0) = false := bne_eq_false_iff_eq.mpr c7
     clear c7
     obtain rfl := Option.some.inj H
     go_enter Try.func33, Try.ntmps33
     go_wp2_with (first | ((with_reducible refine gate_callee (f := 28) rfl ?_); refine goesL_ (some 6) rfl rfl Try.func28 (by kernel_rfl) rfl #[.int .i64 a0] rfl (by (try simp only [List.map_toArray, List.map_cons, List.map_nil]); first | done | rfl | (simp only [List.length_drop, List.length_take]; rfl)) ?_; (with_reducible refine (berthingref01_Clamp.calls a0 t378 _ A3.out).mono ?_); rintro e w' ⟨rfl, ⟨nd, rfl⟩⟩; refine ⟨_, rfl, ?_⟩))
     go_ret
     exact ⟨by first | rfl | (simp; done) | (simp [*]; done), by repeat (first | exact Drawn0.refl _ | apply Drawn0.step)⟩
    ·rw [if_neg c7] at H
     have c7b0 : ((Int.tmod t378 a1) == 0) = false := beq_eq_false_iff_ne.mpr c7
     have c7b1 : ((Int.tmod t378 a1) != 0) = true := bne_iff_ne.mpr c7
     by_cases c8 : a1 ≥ 1099511627776
     ·rw [if_pos c8] at H
      have c8b0 : decide (1099511627776 ≤ a1) = true := decide_eq_true c8
      clear c8
      obtain rfl := Option.some.inj H
      go_enter Try.func33, Try.ntmps33
      go_wp2_with (first | ((with_reducible refine gate_callee (f := 28) rfl ?_); refine goesL_ (some 6) rfl rfl Try.func28 (by kernel_rfl) rfl #[.int .i64 a0] rfl (by (try simp only [List.map_toArray, List.map_cons, List.map_nil]); first | done | rfl | (simp only [List.length_drop, List.length_take]; rfl)) ?_; (with_reducible refine (berthingref01_Clamp.calls a0 t378 _ A3.out).mono ?_); rintro e w' ⟨rfl, ⟨nd, rfl⟩⟩; refine ⟨_, rfl, ?_⟩))
      go_ret
      exact ⟨by first | rfl | (simp; done) | (simp [*]; done), by repeat (first | exact Drawn0.refl _ | apply Drawn0.step)⟩
     ·rw [if_neg c8] at H
      have c8b0 : decide (1099511627776 ≤ a1) = false := decide_eq_false c8
      clear c8
      replace H := Option.bind_eq_some_iff.mp H
      obtain ⟨t379, A90, H⟩ := H
      replace H : (some t379) = some r := H
      have A9 := Aside0.mk A90
      clear A90
      obtain rfl := Option.some.inj H
      go_enter Try.func33, Try.ntmps33
      go_wp2_with (first | ((with_reducible refine gate_callee (f := 28) rfl ?_); refine goesL_ (some 6) rfl rfl Try.func28 (by kernel_rfl) rfl #[.int .i64 a0] rfl (by (try simp only [List.map_toArray, List.map_cons, List.map_nil]); first | done | rfl | (simp only [List.length_drop, List.length_take]; rfl)) ?_; (with_reducible refine (berthingref01_Clamp.calls a0 t378 _ A3.out).mono ?_); rintro e w' ⟨rfl, ⟨nd, rfl⟩⟩; refine ⟨_, rfl, ?_⟩) | ((with_reducible refine gate_callee (f := 28) rfl ?_); refine goesL_ (some 29) rfl rfl Try.func28 (by kernel_rfl) rfl #[.int .i64 (wrap64 ((wrap64 (t378 - (Int.tmod t378 a1))) + a1))] rfl (by (try simp only [List.map_toArray, List.map_cons, List.map_nil]); first | done | rfl | (simp only [List.length_drop, List.length_take]; rfl)) ?_; (with_reducible refine (berthingref01_Clamp.calls (wrap64 ((wrap64 (t378 - (Int.tmod t378 a1))) + a1)) t379 _ A9.out).mono ?_); rintro e w' ⟨rfl, ⟨nd, rfl⟩⟩; refine ⟨_, rfl, ?_⟩))
      go_ret
      exact ⟨by first | rfl | (simp; done) | (simp [*]; done), by repeat (first | exact Drawn0.refl _ | apply Drawn0.step)⟩

/-! ### berthinglaw01_TickSums: function 7 -/
def berthinglaw01_TickSums.f (k : Nat) (a0 : Int) (a1 : Int) (a2 : Int) : Option (Bool) := (tick_Clamp.f a0).bind fun t380 => ((berthingref01_Clamp.f a0).bind fun t381 => (if t380 = t381 then ((tick_Add.f a0 a1).bind fun t382 => ((berthingref01_Add.f a0 a1).bind fun t383 => (if t382 = t383 then ((tick_Sub.f a0 a1).bind fun t384 => ((berthingref01_Sub.f a0 a1).bind fun t385 => (if t384 = t385 then ((tick_Times.f a0 a2).bind fun t386 => ((berthingref01_Times.f a0 a2).bind fun t387 => (if t386 = t387 then ((tick_Up.f a0 a1).bind fun t388 => ((berthingref01_Up.f a0 a1).bind fun t389 => (if t388 = t389 then ((berthinglaw01_one.f k).bind fun t390 => (some t390)) else (none)))) else (none)))) else (none)))) else (none)))) else (none)))
theorem berthinglaw01_TickSums.mono : ∀ a0 a1 a2 k, LeO (berthinglaw01_TickSums.f k a0 a1 a2) (berthinglaw01_TickSums.f (k + 1) a0 a1 a2) := by
 intro a0 a1 a2 k
 unfold berthinglaw01_TickSums.f
 repeat' first
   | (with_reducible exact berthinglaw01_one.mono _)
   | (with_reducible exact LeO.refl _)
   | (with_reducible exact LeO.none _)
   | (with_reducible refine LeO.ite ?_ ?_)
   | (with_reducible refine LeO.bind ?_ (fun _ => ?_))
   | exact berthinglaw01_one.mono _
   | exact LeO.none _
   | refine LeO.ite ?_ ?_
   | refine LeO.bind ?_ (fun _ => ?_)
set_option maxHeartbeats 8000000 in
set_option maxRecDepth 100000 in
theorem berthinglaw01_TickSums.calls (k : Nat) (a0 : Int) (a1 : Int) (a2 : Int) (r : Bool) (w : World) (h : berthinglaw01_TickSums.f k a0 a1 a2 = some r) :
  Calls Try.prog 7 #[.int .i64 a0, .int .i64 a1, .int .i64 a2] w fun e w' => e = .returned (.bool r) ∧ Below w.heap.size w w' := by
 have HB := Aside0.mk (Below.refl w.heap.size w)
 have H : ((tick_Clamp.f a0).bind fun t380 => ((berthingref01_Clamp.f a0).bind fun t381 => (if t380 = t381 then ((tick_Add.f a0 a1).bind fun t382 => ((berthingref01_Add.f a0 a1).bind fun t383 => (if t382 = t383 then ((tick_Sub.f a0 a1).bind fun t384 => ((berthingref01_Sub.f a0 a1).bind fun t385 => (if t384 = t385 then ((tick_Times.f a0 a2).bind fun t386 => ((berthingref01_Times.f a0 a2).bind fun t387 => (if t386 = t387 then ((tick_Up.f a0 a1).bind fun t388 => ((berthingref01_Up.f a0 a1).bind fun t389 => (if t388 = t389 then ((berthinglaw01_one.f k).bind fun t390 => (some t390)) else (none)))) else (none)))) else (none)))) else (none)))) else (none)))) = some r := h
 clear h
 replace H := Option.bind_eq_some_iff.mp H
 obtain ⟨t380, A40, H⟩ := H
 replace H : ((berthingref01_Clamp.f a0).bind fun t381 => (if t380 = t381 then ((tick_Add.f a0 a1).bind fun t382 => ((berthingref01_Add.f a0 a1).bind fun t383 => (if t382 = t383 then ((tick_Sub.f a0 a1).bind fun t384 => ((berthingref01_Sub.f a0 a1).bind fun t385 => (if t384 = t385 then ((tick_Times.f a0 a2).bind fun t386 => ((berthingref01_Times.f a0 a2).bind fun t387 => (if t386 = t387 then ((tick_Up.f a0 a1).bind fun t388 => ((berthingref01_Up.f a0 a1).bind fun t389 => (if t388 = t389 then ((berthinglaw01_one.f k).bind fun t390 => (some t390)) else (none)))) else (none)))) else (none)))) else (none)))) else (none))) = some r := H
 have A4 := Aside0.mk A40
 clear A40
 replace H := Option.bind_eq_some_iff.mp H
 obtain ⟨t381, A50, H⟩ := H
 replace H : (if t380 = t381 then ((tick_Add.f a0 a1).bind fun t382 => ((berthingref01_Add.f a0 a1).bind fun t383 => (if t382 = t383 then ((tick_Sub.f a0 a1).bind fun t384 => ((berthingref01_Sub.f a0 a1).bind fun t385 => (if t384 = t385 then ((tick_Times.f a0 a2).bind fun t386 => ((berthingref01_Times.f a0 a2).bind fun t387 => (if t386 = t387 then ((tick_Up.f a0 a1).bind fun t388 => ((berthingref01_Up.f a0 a1).bind fun t389 => (if t388 = t389 then ((berthinglaw01_one.f k).bind fun t390 => (some t390)) else (none)))) else (none)))) else (none)))) else (none)))) else (none)) = some r := H
 have A5 := Aside0.mk A50
 clear A50
 by_cases c6 : t380 = t381
 ·rw [if_pos c6] at H
  have c6b0 : (t380 == t381) = true := beq_iff_eq.mpr c6
  have c6b1 : (t380 != t381) = false := bne_eq_false_iff_eq.mpr c6
  clear c6
  replace H := Option.bind_eq_some_iff.mp H
  obtain ⟨t382, A70, H⟩ := H
  replace H : ((berthingref01_Add.f a0 a1).bind fun t383 => (if t382 = t383 then ((tick_Sub.f a0 a1).bind fun t384 => ((berthingref01_Sub.f a0 a1).bind fun t385 => (if t384 = t385 then ((tick_Times.f a0 a2).bind fun t386 => ((berthingref01_Times.f a0 a2).bind fun t387 => (if t386 = t387 then ((tick_Up.f a0 a1).bind fun t388 => ((berthingref01_Up.f a0 a1).bind fun t389 => (if t388 = t389 then ((berthinglaw01_one.f k).bind fun t390 => (some t390)) else (none)))) else (none)))) else (none)))) else (none))) = some r := H
  have A7 := Aside0.mk A70
  clear A70
  replace H := Option.bind_eq_some_iff.mp H
  obtain ⟨t383, A80, H⟩ := H
  replace H : (if t382 = t383 then ((tick_Sub.f a0 a1).bind fun t384 => ((berthingref01_Sub.f a0 a1).bind fun t385 => (if t384 = t385 then ((tick_Times.f a0 a2).bind fun t386 => ((berthingref01_Times.f a0 a2).bind fun t387 => (if t386 = t387 then ((tick_Up.f a0 a1).bind fun t388 => ((berthingref01_Up.f a0 a1).bind fun t389 => (if t388 = t389 then ((berthinglaw01_one.f k).bind fun t390 => (some t390)) else (none)))) else (none)))) else (none)))) else (none)) = some r := H
  have A8 := Aside0.mk A80
  clear A80
  by_cases c9 : t382 = t383
  ·rw [if_pos c9] at H
   have c9b0 : (t382 == t383) = true := beq_iff_eq.mpr c9
   have c9b1 : (t382 != t383) = false := bne_eq_false_iff_eq.mpr c9
   clear c9
   replace H := Option.bind_eq_some_iff.mp H
   obtain ⟨t384, A100, H⟩ := H
   replace H : ((berthingref01_Sub.f a0 a1).bind fun t385 => (if t384 = t385 then ((tick_Times.f a0 a2).bind fun t386 => ((berthingref01_Times.f a0 a2).bind fun t387 => (if t386 = t387 then ((tick_Up.f a0 a1).bind fun t388 => ((berthingref01_Up.f a0 a1).bind fun t389 => (if t388 = t389 then ((berthinglaw01_one.f k).bind fun t390 => (some t390)) else (none)))) else (none)))) else (none))) = some r := H
   have A10 := Aside0.mk A100
   clear A100
   replace H := Option.bind_eq_some_iff.mp H
   obtain ⟨t385, A110, H⟩ := H
   replace H : (if t384 = t385 then ((tick_Times.f a0 a2).bind fun t386 => ((berthingref01_Times.f a0 a2).bind fun t387 => (if t386 = t387 then ((tick_Up.f a0 a1).bind fun t388 => ((berthingref01_Up.f a0 a1).bind fun t389 => (if t388 = t389 then ((berthinglaw01_one.f k).bind fun t390 => (some t390)) else (none)))) else (none)))) else (none)) = some r := H
   have A11 := Aside0.mk A110
   clear A110
   by_cases c12 : t384 = t385
   ·rw [if_pos c12] at H
    have c12b0 : (t384 == t385) = true := beq_iff_eq.mpr c12
    have c12b1 : (t384 != t385) = false := bne_eq_false_iff_eq.mpr c12
    clear c12
    replace H := Option.bind_eq_some_iff.mp H
    obtain ⟨t386, A130, H⟩ := H
    replace H : ((berthingref01_Times.f a0 a2).bind fun t387 => (if t386 = t387 then ((tick_Up.f a0 a1).bind fun t388 => ((berthingref01_Up.f a0 a1).bind fun t389 => (if t388 = t389 then ((berthinglaw01_one.f k).bind fun t390 => (some t390)) else (none)))) else (none))) = some r := H
    have A13 := Aside0.mk A130
    clear A130
    replace H := Option.bind_eq_some_iff.mp H
    obtain ⟨t387, A140, H⟩ := H
    replace H : (if t386 = t387 then ((tick_Up.f a0 a1).bind fun t388 => ((berthingref01_Up.f a0 a1).bind fun t389 => (if t388 = t389 then ((berthinglaw01_one.f k).bind fun t390 => (some t390)) else (none)))) else (none)) = some r := H
    have A14 := Aside0.mk A140
    clear A140
    by_cases c15 : t386 = t387
    ·rw [if_pos c15] at H
     have c15b0 : (t386 == t387) = true := beq_iff_eq.mpr c15
     have c15b1 : (t386 != t387) = false := bne_eq_false_iff_eq.mpr c15
     clear c15
     replace H := Option.bind_eq_some_iff.mp H
     obtain ⟨t388, A160, H⟩ := H
     replace H : ((berthingref01_Up.f a0 a1).bind fun t389 => (if t388 = t389 then ((berthinglaw01_one.f k).bind fun t390 => (some t390)) else (none))) = some r := H
     have A16 := Aside0.mk A160
     clear A160
     replace H := Option.bind_eq_some_iff.mp H
     obtain ⟨t389, A170, H⟩ := H
     replace H : (if t388 = t389 then ((berthinglaw01_one.f k).bind fun t390 => (some t390)) else (none)) = some r := H
     have A17 := Aside0.mk A170
     clear A170
     by_cases c18 : t388 = t389
     ·rw [if_pos c18] at H
      have c18b0 : (t388 == t389) = true := beq_iff_eq.mpr c18
      have c18b1 : (t388 != t389) = false := bne_eq_false_iff_eq.mpr c18
      clear c18
      replace H := Option.bind_eq_some_iff.mp H
      obtain ⟨t390, A190, H⟩ := H
      replace H : (some t390) = some r := H
      have A19 := Aside0.mk A190
      clear A190
      obtain rfl := Option.some.inj H
      go_enter Try.func7, Try.ntmps7
      go_wp2_with (first | ((with_reducible refine gate_callee (f := 14) rfl ?_); refine goesL_ (some 12) rfl rfl Try.func14 (by kernel_rfl) rfl #[.int .i64 a0] rfl (by (try simp only [List.map_toArray, List.map_cons, List.map_nil]); first | done | rfl | (simp only [List.length_drop, List.length_take]; rfl)) ?_; (with_reducible refine (tick_Clamp.calls a0 t380 _ A4.out).mono ?_); rintro e w20 ⟨rfl, hb⟩; refine ⟨_, rfl, ?_⟩; have n0_ := Aside0.mk (below_step (by repeat (first | (with_reducible first | exact HB.out | apply below_alloc | apply pw_below_drewN | apply below_drew1) | exact HB.out)) hb); clear HB; have HB := n0_; clear n0_; (try clear hb); (try clear hb2); (try clear hk); (try clear hi)) | ((with_reducible refine gate_callee (f := 28) rfl ?_); refine goesL_ (some 14) rfl rfl Try.func28 (by kernel_rfl) rfl #[.int .i64 a0] rfl (by (try simp only [List.map_toArray, List.map_cons, List.map_nil]); first | done | rfl | (simp only [List.length_drop, List.length_take]; rfl)) ?_; (with_reducible refine (berthingref01_Clamp.calls a0 t381 _ A5.out).mono ?_); rintro e w' ⟨rfl, ⟨nd, rfl⟩⟩; refine ⟨_, rfl, ?_⟩) | (go_at_call 13; (with_reducible refine (tick_Add.calls a0 a1 t382 _ A7.out).mono ?_); rintro e w21 ⟨rfl, hb⟩; have n0_ := Aside0.mk (below_step (by repeat (first | (with_reducible first | exact HB.out | apply below_alloc | apply pw_below_drewN | apply below_drew1) | exact HB.out)) hb); clear HB; have HB := n0_; clear n0_; (try clear hb); (try clear hb2); (try clear hk); (try clear hi)) | (go_at_call 29; (with_reducible refine (berthingref01_Add.calls a0 a1 t383 _ A8.out).mono ?_); rintro e w' ⟨rfl, ⟨nd, rfl⟩⟩) | (go_at_call 15; (with_reducible refine (tick_Sub.calls a0 a1 t384 _ A10.out).mono ?_); rintro e w22 ⟨rfl, hb⟩; have n0_ := Aside0.mk (below_step (by repeat (first | (with_reducible first | exact HB.out | apply below_alloc | apply pw_below_drewN | apply below_drew1) | exact HB.out)) hb); clear HB; have HB := n0_; clear n0_; (try clear hb); (try clear hb2); (try clear hk); (try clear hi)) | (go_at_call 30; (with_reducible refine (berthingref01_Sub.calls a0 a1 t385 _ A11.out).mono ?_); rintro e w' ⟨rfl, ⟨nd, rfl⟩⟩) | (go_at_call 16; (with_reducible refine (tick_Times.calls a0 a2 t386 _ A13.out).mono ?_); rintro e w23 ⟨rfl, hb⟩; have n0_ := Aside0.mk (below_step (by repeat (first | (with_reducible first | exact HB.out | apply below_alloc | apply pw_below_drewN | apply below_drew1) | exact HB.out)) hb); clear HB; have HB := n0_; clear n0_; (try clear hb); (try clear hb2); (try clear hk); (try clear hi)) | (go_at_call 31; (with_reducible refine (berthingref01_Times.calls a0 a2 t387 _ A14.out).mono ?_); rintro e w' ⟨rfl, ⟨nd, rfl⟩⟩) | (go_at_call 32; (with_reducible refine (tick_Up.calls a0 a1 t388 _ A16.out).mono ?_); rintro e w24 ⟨rfl, hb⟩; have n0_ := Aside0.mk (below_step (by repeat (first | (with_reducible first | exact HB.out | apply below_alloc | apply pw_below_drewN | apply below_drew1) | exact HB.out)) hb); clear HB; have HB := n0_; clear n0_; (try clear hb); (try clear hb2); (try clear hk); (try clear hi)) | (go_at_call 33; (with_reducible refine (berthingref01_Up.calls a0 a1 t389 _ A17.out).mono ?_); rintro e w' ⟨rfl, ⟨nd, rfl⟩⟩) | (go_at_call 12; (with_reducible refine (berthinglaw01_one.calls k  t390 _ A19.out).mono ?_); rintro e w25 ⟨rfl, hb⟩; have n0_ := Aside0.mk (below_step (by repeat (first | (with_reducible first | exact HB.out | apply below_alloc | apply pw_below_drewN | apply below_drew1) | exact HB.out)) hb); clear HB; have HB := n0_; clear n0_; (try clear hb); (try clear hb2); (try clear hk); (try clear hi)))
      go_ret
      exact ⟨by first | rfl | (simp [errW_none, errW_some] <;> rfl) | (simp [*, errW_none, errW_some] <;> rfl), by repeat (first | (with_reducible first | exact HB.out | apply below_alloc | apply pw_below_drewN | apply below_drew1) | exact HB.out)⟩
     ·rw [if_neg c18] at H
      exact absurd H (by simp)
    ·rw [if_neg c15] at H
     exact absurd H (by simp)
   ·rw [if_neg c12] at H
    exact absurd H (by simp)
  ·rw [if_neg c9] at H
   exact absurd H (by simp)
 ·rw [if_neg c6] at H
  exact absurd H (by simp)

/-- THE ONE PURE STATEMENT of berthinglaw01_TickSums: yours. -/
def berthinglaw01_TickSums.Pure : Prop := ∀ (a0 : Int) (a1 : Int) (a2 : Int), (Lit.int .i64 a0).wf = true → (Lit.int .i64 a1).wf = true → (Lit.int .i64 a2).wf = true → ∃ k, berthinglaw01_TickSums.f k a0 a1 a2 = some true
theorem berthinglaw01_TickSums.walk (P : berthinglaw01_TickSums.Pure) (a0 : Int) (a1 : Int) (a2 : Int) (w : World) (w0 : (Lit.int .i64 a0).wf = true) (w1 : (Lit.int .i64 a1).wf = true) (w2 : (Lit.int .i64 a2).wf = true) :
  Calls Try.prog 7 #[.int .i64 a0, .int .i64 a1, .int .i64 a2] w fun e w' => e = .returned (.bool true) ∧ Below w.heap.size w w' := by
 obtain ⟨k, h⟩ := P a0 a1 a2 w0 w1 w2
 refine (berthinglaw01_TickSums.calls k a0 a1 a2 true w h).mono ?_
 rintro e w' ⟨rfl, hd⟩
 exact ⟨rfl, hd⟩

/-! ### berthinglaw01_TickSteps: function 8 -/
def berthinglaw01_TickSteps.l0 : Nat → Int → Int → Int → Int → Option (Bool)
 | 0, _, _, _, _ => none
 | k + 1, x0, x2, x8, x9 => if x9 < x2 then ((tick_Add.f x8 x0).bind fun t395 => (berthinglaw01_TickSteps.l0 k x0 x2 t395 (wrap64 (x9 + 1)))) else ((tick_Times.f x0 x2).bind fun t396 => (if t396 = x8 then ((berthinglaw01_one.f k).bind fun t397 => (some t397)) else (none)))
def berthinglaw01_TickSteps.f (k : Nat) (a0 : Int) (a1 : Int) (a2 : Int) : Option (Bool) := (tick_Up.f a0 (wrap64 (1 + (Go.bits .and .i64 a1 65535)))).bind fun t391 => ((tick_Clamp.f a0).bind fun t392 => (if t391 < t392 then (none) else ((tick_Up.f t391 (wrap64 (1 + (Go.bits .and .i64 a1 65535)))).bind fun t393 => (if t393 = t391 then (if t391 < 1099511627776 then (if (wrap64 (1 + (Go.bits .and .i64 a1 65535))) = 0 then (none) else (if (Int.tmod t391 (wrap64 (1 + (Go.bits .and .i64 a1 65535)))) = 0 then ((tick_Sub.f t391 a0).bind fun t394 => (if t394 ≥ (wrap64 (1 + (Go.bits .and .i64 a1 65535))) then (none) else (berthinglaw01_TickSteps.l0 k a0 (Go.bits .and .i64 a2 63) 0 0))) else (none))) else (berthinglaw01_TickSteps.l0 k a0 (Go.bits .and .i64 a2 63) 0 0)) else (none)))))
theorem berthinglaw01_TickSteps.mono_l : ∀ k, (∀ y0 y1 y2 y3, LeO (berthinglaw01_TickSteps.l0 k y0 y1 y2 y3) (berthinglaw01_TickSteps.l0 (k + 1) y0 y1 y2 y3))
 | 0 => fun _ _ _ _ r h => by simp [berthinglaw01_TickSteps.l0] at h
 | k + 1 => by
  have ih0 := berthinglaw01_TickSteps.mono_l k
  ·intro y0 y1 y2 y3
   unfold berthinglaw01_TickSteps.l0
   repeat' first
   | (with_reducible exact ih0 _ _ _ _)
   | (with_reducible exact berthinglaw01_one.mono _)
   | (with_reducible exact LeO.refl _)
   | (with_reducible exact LeO.none _)
   | (with_reducible refine LeO.ite ?_ ?_)
   | (with_reducible refine LeO.bind ?_ (fun _ => ?_))
   | exact ih0 _ _ _ _
   | exact berthinglaw01_one.mono _
   | exact LeO.none _
   | refine LeO.ite ?_ ?_
   | refine LeO.bind ?_ (fun _ => ?_)
theorem berthinglaw01_TickSteps.mono : ∀ a0 a1 a2 k, LeO (berthinglaw01_TickSteps.f k a0 a1 a2) (berthinglaw01_TickSteps.f (k + 1) a0 a1 a2) := by
 intro a0 a1 a2 k
 have ih0 := berthinglaw01_TickSteps.mono_l k
 unfold berthinglaw01_TickSteps.f
 repeat' first
   | (with_reducible exact ih0 _ _ _ _)
   | (with_reducible exact berthinglaw01_one.mono _)
   | (with_reducible exact LeO.refl _)
   | (with_reducible exact LeO.none _)
   | (with_reducible refine LeO.ite ?_ ?_)
   | (with_reducible refine LeO.bind ?_ (fun _ => ?_))
   | exact ih0 _ _ _ _
   | exact berthinglaw01_one.mono _
   | exact LeO.none _
   | refine LeO.ite ?_ ?_
   | refine LeO.bind ?_ (fun _ => ?_)
set_option maxHeartbeats 8000000 in
set_option maxRecDepth 100000 in
theorem berthinglaw01_TickSteps.calls (k : Nat) (a0 : Int) (a1 : Int) (a2 : Int) (r : Bool) (w : World) (h : berthinglaw01_TickSteps.f k a0 a1 a2 = some r) :
  Calls Try.prog 8 #[.int .i64 a0, .int .i64 a1, .int .i64 a2] w fun e w' => e = .returned (.bool r) ∧ Below w.heap.size w w' := by
 have HB := Aside0.mk (Below.refl w.heap.size w)
 have H : ((tick_Up.f a0 (wrap64 (1 + (Go.bits .and .i64 a1 65535)))).bind fun t391 => ((tick_Clamp.f a0).bind fun t392 => (if t391 < t392 then (none) else ((tick_Up.f t391 (wrap64 (1 + (Go.bits .and .i64 a1 65535)))).bind fun t393 => (if t393 = t391 then (if t391 < 1099511627776 then (if (wrap64 (1 + (Go.bits .and .i64 a1 65535))) = 0 then (none) else (if (Int.tmod t391 (wrap64 (1 + (Go.bits .and .i64 a1 65535)))) = 0 then ((tick_Sub.f t391 a0).bind fun t394 => (if t394 ≥ (wrap64 (1 + (Go.bits .and .i64 a1 65535))) then (none) else (berthinglaw01_TickSteps.l0 k a0 (Go.bits .and .i64 a2 63) 0 0))) else (none))) else (berthinglaw01_TickSteps.l0 k a0 (Go.bits .and .i64 a2 63) 0 0)) else (none)))))) = some r := h
 clear h
 replace H := Option.bind_eq_some_iff.mp H
 obtain ⟨t391, A40, H⟩ := H
 replace H : ((tick_Clamp.f a0).bind fun t392 => (if t391 < t392 then (none) else ((tick_Up.f t391 (wrap64 (1 + (Go.bits .and .i64 a1 65535)))).bind fun t393 => (if t393 = t391 then (if t391 < 1099511627776 then (if (wrap64 (1 + (Go.bits .and .i64 a1 65535))) = 0 then (none) else (if (Int.tmod t391 (wrap64 (1 + (Go.bits .and .i64 a1 65535)))) = 0 then ((tick_Sub.f t391 a0).bind fun t394 => (if t394 ≥ (wrap64 (1 + (Go.bits .and .i64 a1 65535))) then (none) else (berthinglaw01_TickSteps.l0 k a0 (Go.bits .and .i64 a2 63) 0 0))) else (none))) else (berthinglaw01_TickSteps.l0 k a0 (Go.bits .and .i64 a2 63) 0 0)) else (none))))) = some r := H
 have A4 := Aside0.mk A40
 clear A40
 replace H := Option.bind_eq_some_iff.mp H
 obtain ⟨t392, A50, H⟩ := H
 replace H : (if t391 < t392 then (none) else ((tick_Up.f t391 (wrap64 (1 + (Go.bits .and .i64 a1 65535)))).bind fun t393 => (if t393 = t391 then (if t391 < 1099511627776 then (if (wrap64 (1 + (Go.bits .and .i64 a1 65535))) = 0 then (none) else (if (Int.tmod t391 (wrap64 (1 + (Go.bits .and .i64 a1 65535)))) = 0 then ((tick_Sub.f t391 a0).bind fun t394 => (if t394 ≥ (wrap64 (1 + (Go.bits .and .i64 a1 65535))) then (none) else (berthinglaw01_TickSteps.l0 k a0 (Go.bits .and .i64 a2 63) 0 0))) else (none))) else (berthinglaw01_TickSteps.l0 k a0 (Go.bits .and .i64 a2 63) 0 0)) else (none)))) = some r := H
 have A5 := Aside0.mk A50
 clear A50
 by_cases c6 : t391 < t392
 ·rw [if_pos c6] at H
  exact absurd H (by simp)
 ·rw [if_neg c6] at H
  have c6b0 : decide (t391 < t392) = false := decide_eq_false c6
  clear c6
  replace H := Option.bind_eq_some_iff.mp H
  obtain ⟨t393, A70, H⟩ := H
  replace H : (if t393 = t391 then (if t391 < 1099511627776 then (if (wrap64 (1 + (Go.bits .and .i64 a1 65535))) = 0 then (none) else (if (Int.tmod t391 (wrap64 (1 + (Go.bits .and .i64 a1 65535)))) = 0 then ((tick_Sub.f t391 a0).bind fun t394 => (if t394 ≥ (wrap64 (1 + (Go.bits .and .i64 a1 65535))) then (none) else (berthinglaw01_TickSteps.l0 k a0 (Go.bits .and .i64 a2 63) 0 0))) else (none))) else (berthinglaw01_TickSteps.l0 k a0 (Go.bits .and .i64 a2 63) 0 0)) else (none)) = some r := H
  have A7 := Aside0.mk A70
  clear A70
  by_cases c8 : t393 = t391
  ·rw [if_pos c8] at H
   have c8b0 : (t393 == t391) = true := beq_iff_eq.mpr c8
   have c8b1 : (t393 != t391) = false := bne_eq_false_iff_eq.mpr c8
   clear c8
   by_cases c9 : t391 < 1099511627776
   ·rw [if_pos c9] at H
    have c9b0 : decide (t391 < 1099511627776) = true := decide_eq_true c9
    clear c9
    by_cases c10 : (wrap64 (1 + (Go.bits .and .i64 a1 65535))) = 0
    ·rw [if_pos c10] at H
     exact absurd H (by simp)
    ·rw [if_neg c10] at H
     have c10b0 : ((wrap64 (1 + (Go.bits .and .i64 a1 65535))) == 0) = false := beq_eq_false_iff_ne.mpr c10
     have c10b1 : ((wrap64 (1 + (Go.bits .and .i64 a1 65535))) != 0) = true := bne_iff_ne.mpr c10
     by_cases c11 : (Int.tmod t391 (wrap64 (1 + (Go.bits .and .i64 a1 65535)))) = 0
     ·rw [if_pos c11] at H
      have c11b0 : ((Int.tmod t391 (wrap64 (1 + (Go.bits .and .i64 a1 65535)))) == 0) = true := beq_iff_eq.mpr c11
      have c11b1 : ((Int.tmod t391 (wrap64 (1 + (Go.bits .and .i64 a1 65535)))) != 0) = false := bne_eq_false_iff_eq.mpr c11
      clear c11
      replace H := Option.bind_eq_some_iff.mp H
      obtain ⟨t394, A120, H⟩ := H
      replace H : (if t394 ≥ (wrap64 (1 + (Go.bits .and .i64 a1 65535))) then (none) else (berthinglaw01_TickSteps.l0 k a0 (Go.bits .and .i64 a2 63) 0 0)) = some r := H
      have A12 := Aside0.mk A120
      clear A120
      by_cases c13 : t394 ≥ (wrap64 (1 + (Go.bits .and .i64 a1 65535)))
      ·rw [if_pos c13] at H
       exact absurd H (by simp)
      ·rw [if_neg c13] at H
       have c13b0 : decide ((wrap64 (1 + (Go.bits .and .i64 a1 65535))) ≤ t394) = false := decide_eq_false c13
       clear c13
       have H' := Aside0.mk H
       clear H
       go_enter Try.func8, Try.ntmps8
       go_wp2_with (first | ((with_reducible refine gate_callee (f := 32) rfl ?_); refine goesL_ (some 15) rfl rfl Try.func32 (by kernel_rfl) rfl #[.int .i64 a0, .int .i64 (wrap64 (1 + (Go.bits .and .i64 a1 65535)))] rfl (by (try simp only [List.map_toArray, List.map_cons, List.map_nil]); first | done | rfl | (simp only [List.length_drop, List.length_take]; rfl)) ?_; (with_reducible refine (tick_Up.calls a0 (wrap64 (1 + (Go.bits .and .i64 a1 65535))) t391 _ A4.out).mono ?_); rintro e w14 ⟨rfl, hb⟩; refine ⟨_, rfl, ?_⟩; have n0_ := Aside0.mk (below_step (by repeat (first | (with_reducible first | exact HB.out | apply below_alloc | apply pw_below_drewN | apply below_drew1) | exact HB.out)) hb); clear HB; have HB := n0_; clear n0_; (try clear hb); (try clear hb2); (try clear hk); (try clear hi)) | ((with_reducible refine gate_callee (f := 14) rfl ?_); refine goesL_ (some 18) rfl rfl Try.func14 (by kernel_rfl) rfl #[.int .i64 a0] rfl (by (try simp only [List.map_toArray, List.map_cons, List.map_nil]); first | done | rfl | (simp only [List.length_drop, List.length_take]; rfl)) ?_; (with_reducible refine (tick_Clamp.calls a0 t392 _ A5.out).mono ?_); rintro e w15 ⟨rfl, hb⟩; refine ⟨_, rfl, ?_⟩; have n0_ := Aside0.mk (below_step (by repeat (first | (with_reducible first | exact HB.out | apply below_alloc | apply pw_below_drewN | apply below_drew1) | exact HB.out)) hb); clear HB; have HB := n0_; clear n0_; (try clear hb); (try clear hb2); (try clear hk); (try clear hi)) | (go_at_call 32; (with_reducible refine (tick_Up.calls t391 (wrap64 (1 + (Go.bits .and .i64 a1 65535))) t393 _ A7.out).mono ?_); rintro e w16 ⟨rfl, hb⟩; have n0_ := Aside0.mk (below_step (by repeat (first | (with_reducible first | exact HB.out | apply below_alloc | apply pw_below_drewN | apply below_drew1) | exact HB.out)) hb); clear HB; have HB := n0_; clear n0_; (try clear hb); (try clear hb2); (try clear hk); (try clear hi)) | (go_at_call 15; (with_reducible refine (tick_Sub.calls t391 a0 t394 _ A12.out).mono ?_); rintro e w17 ⟨rfl, hb⟩; have n0_ := Aside0.mk (below_step (by repeat (first | (with_reducible first | exact HB.out | apply below_alloc | apply pw_below_drewN | apply below_drew1) | exact HB.out)) hb); clear HB; have HB := n0_; clear n0_; (try clear hb); (try clear hb2); (try clear hk); (try clear hi)))
       go_loopg [8, 9] k (fun kq v8 v9 w' => ∃ (x8_1 : Int) (x9_1 : Int), v8 = .int .i64 x8_1 ∧ v9 = .int .i64 x9_1 ∧ Aside0 (berthinglaw01_TickSteps.l0 kq a0 (Go.bits .and .i64 a2 63) x8_1 x9_1 = some r) ∧ Aside0 (kq ≤ k) ∧ Aside0 (Below w.heap.size w w'))
       case atStart => exact ⟨(0), (0), (by first | rfl | (simp; done) | (simp [*]; done)), (by first | rfl | (simp; done) | (simp [*]; done)), H', ⟨Nat.le_refl _⟩, ⟨by repeat (first | (with_reducible first | exact HB.out | apply below_alloc | apply pw_below_drewN | apply below_drew1) | exact HB.out)⟩⟩
       case round =>
        clear H'
        try clear c1
        try clear p2
        try clear c3
        try clear c6
        try clear c6b0
        try clear p6
        try clear c8
        try clear c8b0
        try clear c8b1
        try clear c9
        try clear c9b0
        try clear c10
        try clear c10b0
        try clear c10b1
        try clear c11
        try clear c11b0
        try clear c11b1
        try clear c13
        try clear c13b0
        try clear c14
        obtain ⟨x8_1, x9_1, rfl, rfl, HA, HK1, HB⟩ := hrel
        cases gk with
        | zero => exact absurd HA.out (by simp [berthinglaw01_TickSteps.l0])
        | succ k1 =>
         have H := HA.out
         clear HA
         simp only [berthinglaw01_TickSteps.l0] at H
         by_cases c18 : x9_1 < (Go.bits .and .i64 a2 63)
         ·rw [if_pos c18] at H
          have c18b0 : decide (x9_1 < (Go.bits .and .i64 a2 63)) = true := decide_eq_true c18
          clear c18
          replace H := Option.bind_eq_some_iff.mp H
          obtain ⟨t395, A190, H⟩ := H
          replace H : (berthinglaw01_TickSteps.l0 k1 a0 (Go.bits .and .i64 a2 63) t395 (wrap64 (x9_1 + 1))) = some r := H
          have A19 := Aside0.mk A190
          clear A190
          have H' := Aside0.mk H
          clear H
          go_wp2_with (first | ((with_reducible refine gate_callee (f := 13) rfl ?_); refine goesL_ (some 53) rfl rfl Try.func13 (by kernel_rfl) rfl #[.int .i64 x8_1, .int .i64 a0] rfl (by (try simp only [List.map_toArray, List.map_cons, List.map_nil]); first | done | rfl | (simp only [List.length_drop, List.length_take]; rfl)) ?_; (with_reducible refine (tick_Add.calls x8_1 a0 t395 _ A19.out).mono ?_); rintro e w20 ⟨rfl, hb⟩; refine ⟨_, rfl, ?_⟩; have n0_ := Aside0.mk (below_step (by repeat (first | (with_reducible first | exact HB.out | apply below_alloc | apply pw_below_drewN | apply below_drew1) | exact HB.out)) hb); clear HB; have HB := n0_; clear n0_; (try clear hb); (try clear hb2); (try clear hk); (try clear hi)))
          go_roundg k1
          case measure => have := HK1.out; omega
          case rel => exact ⟨(t395), (wrap64 (x9_1 + 1)), (by first | rfl | (simp; done) | (simp [*]; done)), (by first | rfl | (simp; done) | (simp [*]; done)), H', ⟨by have := HK1.out; omega⟩, ⟨by repeat (first | (with_reducible first | exact HB.out | apply below_alloc | apply pw_below_drewN | apply below_drew1) | exact HB.out)⟩⟩
         ·rw [if_neg c18] at H
          have c18b0 : decide (x9_1 < (Go.bits .and .i64 a2 63)) = false := decide_eq_false c18
          clear c18
          replace H := Option.bind_eq_some_iff.mp H
          obtain ⟨t396, A210, H⟩ := H
          replace H : (if t396 = x8_1 then ((berthinglaw01_one.f k1).bind fun t397 => (some t397)) else (none)) = some r := H
          have A21 := Aside0.mk A210
          clear A210
          by_cases c22 : t396 = x8_1
          ·rw [if_pos c22] at H
           have c22b0 : (t396 == x8_1) = true := beq_iff_eq.mpr c22
           have c22b1 : (t396 != x8_1) = false := bne_eq_false_iff_eq.mpr c22
           clear c22
           replace H := Option.bind_eq_some_iff.mp H
           obtain ⟨t397, A230, H⟩ := H
           replace H : (some t397) = some r := H
           have A23 := Aside0.mk A230
           clear A230
           obtain rfl := Option.some.inj H
           go_wp2_with (first | ((with_reducible refine gate_callee (f := 16) rfl ?_); refine goesL_ (some 56) rfl rfl Try.func16 (by kernel_rfl) rfl #[.int .i64 a0, .int .i64 (Go.bits .and .i64 a2 63)] rfl (by (try simp only [List.map_toArray, List.map_cons, List.map_nil]); first | done | rfl | (simp only [List.length_drop, List.length_take]; rfl)) ?_; (with_reducible refine (tick_Times.calls a0 (Go.bits .and .i64 a2 63) t396 _ A21.out).mono ?_); rintro e w24 ⟨rfl, hb⟩; refine ⟨_, rfl, ?_⟩; have n0_ := Aside0.mk (below_step (by repeat (first | (with_reducible first | exact HB.out | apply below_alloc | apply pw_below_drewN | apply below_drew1) | exact HB.out)) hb); clear HB; have HB := n0_; clear n0_; (try clear hb); (try clear hb2); (try clear hk); (try clear hi)) | (go_at_call 12; (with_reducible refine (berthinglaw01_one.calls k1  t397 _ A23.out).mono ?_); rintro e w25 ⟨rfl, hb⟩; have n0_ := Aside0.mk (below_step (by repeat (first | (with_reducible first | exact HB.out | apply below_alloc | apply pw_below_drewN | apply below_drew1) | exact HB.out)) hb); clear HB; have HB := n0_; clear n0_; (try clear hb); (try clear hb2); (try clear hk); (try clear hi)))
           go_ret
           exact ⟨by first | rfl | (simp [errW_none, errW_some] <;> rfl) | (simp [*, errW_none, errW_some] <;> rfl), by repeat (first | (with_reducible first | exact HB.out | apply below_alloc | apply pw_below_drewN | apply below_drew1) | exact HB.out)⟩
          ·rw [if_neg c22] at H
           exact absurd H (by simp)
     ·rw [if_neg c11] at H
      exact absurd H (by simp)
   ·rw [if_neg c9] at H
    have c9b0 : decide (t391 < 1099511627776) = false := decide_eq_false c9
    clear c9
    have H' := Aside0.mk H
    clear H
    go_enter Try.func8, Try.ntmps8
    go_wp2_with (first | ((with_reducible refine gate_callee (f := 32) rfl ?_); refine goesL_ (some 15) rfl rfl Try.func32 (by kernel_rfl) rfl #[.int .i64 a0, .int .i64 (wrap64 (1 + (Go.bits .and .i64 a1 65535)))] rfl (by (try simp only [List.map_toArray, List.map_cons, List.map_nil]); first | done | rfl | (simp only [List.length_drop, List.length_take]; rfl)) ?_; (with_reducible refine (tick_Up.calls a0 (wrap64 (1 + (Go.bits .and .i64 a1 65535))) t391 _ A4.out).mono ?_); rintro e w26 ⟨rfl, hb⟩; refine ⟨_, rfl, ?_⟩; have n0_ := Aside0.mk (below_step (by repeat (first | (with_reducible first | exact HB.out | apply below_alloc | apply pw_below_drewN | apply below_drew1) | exact HB.out)) hb); clear HB; have HB := n0_; clear n0_; (try clear hb); (try clear hb2); (try clear hk); (try clear hi)) | ((with_reducible refine gate_callee (f := 14) rfl ?_); refine goesL_ (some 18) rfl rfl Try.func14 (by kernel_rfl) rfl #[.int .i64 a0] rfl (by (try simp only [List.map_toArray, List.map_cons, List.map_nil]); first | done | rfl | (simp only [List.length_drop, List.length_take]; rfl)) ?_; (with_reducible refine (tick_Clamp.calls a0 t392 _ A5.out).mono ?_); rintro e w27 ⟨rfl, hb⟩; refine ⟨_, rfl, ?_⟩; have n0_ := Aside0.mk (below_step (by repeat (first | (with_reducible first | exact HB.out | apply below_alloc | apply pw_below_drewN | apply below_drew1) | exact HB.out)) hb); clear HB; have HB := n0_; clear n0_; (try clear hb); (try clear hb2); (try clear hk); (try clear hi)) | (go_at_call 32; (with_reducible refine (tick_Up.calls t391 (wrap64 (1 + (Go.bits .and .i64 a1 65535))) t393 _ A7.out).mono ?_); rintro e w28 ⟨rfl, hb⟩; have n0_ := Aside0.mk (below_step (by repeat (first | (with_reducible first | exact HB.out | apply below_alloc | apply pw_below_drewN | apply below_drew1) | exact HB.out)) hb); clear HB; have HB := n0_; clear n0_; (try clear hb); (try clear hb2); (try clear hk); (try clear hi)))
    go_loopg [8, 9] k (fun kq v8 v9 w' => ∃ (x8_1 : Int) (x9_1 : Int), v8 = .int .i64 x8_1 ∧ v9 = .int .i64 x9_1 ∧ Aside0 (berthinglaw01_TickSteps.l0 kq a0 (Go.bits .and .i64 a2 63) x8_1 x9_1 = some r) ∧ Aside0 (kq ≤ k) ∧ Aside0 (Below w.heap.size w w'))
    case atStart => exact ⟨(0), (0), (by first | rfl | (simp; done) | (simp [*]; done)), (by first | rfl | (simp; done) | (simp [*]; done)), H', ⟨Nat.le_refl _⟩, ⟨by repeat (first | (with_reducible first | exact HB.out | apply below_alloc | apply pw_below_drewN | apply below_drew1) | exact HB.out)⟩⟩
    case round =>
     clear H'
     try clear c1
     try clear c2
     try clear p2
     try clear c3
     try clear c6
     try clear c6b0
     try clear p6
     try clear c8
     try clear c8b0
     try clear c8b1
     try clear c9
     try clear c9b0
     try clear c10
     try clear c10b0
     try clear c10b1
     try clear c11
     try clear c11b0
     try clear c11b1
     try clear c13
     try clear c13b0
     try clear c14
     try clear c16
     try clear c18
     try clear c18b0
     try clear c22
     try clear c22b0
     try clear c22b1
     try clear p2
     try clear p6
     obtain ⟨x8_1, x9_1, rfl, rfl, HA, HK1, HB⟩ := hrel
     cases gk with
     | zero => exact absurd HA.out (by simp [berthinglaw01_TickSteps.l0])
     | succ k1 =>
      have H := HA.out
      clear HA
      simp only [berthinglaw01_TickSteps.l0] at H
      by_cases c29 : x9_1 < (Go.bits .and .i64 a2 63)
      ·rw [if_pos c29] at H
       have c29b0 : decide (x9_1 < (Go.bits .and .i64 a2 63)) = true := decide_eq_true c29
       clear c29
       replace H := Option.bind_eq_some_iff.mp H
       obtain ⟨t395, A300, H⟩ := H
       replace H : (berthinglaw01_TickSteps.l0 k1 a0 (Go.bits .and .i64 a2 63) t395 (wrap64 (x9_1 + 1))) = some r := H
       have A30 := Aside0.mk A300
       clear A300
       have H' := Aside0.mk H
       clear H
       go_wp2_with (first | ((with_reducible refine gate_callee (f := 13) rfl ?_); refine goesL_ (some 53) rfl rfl Try.func13 (by kernel_rfl) rfl #[.int .i64 x8_1, .int .i64 a0] rfl (by (try simp only [List.map_toArray, List.map_cons, List.map_nil]); first | done | rfl | (simp only [List.length_drop, List.length_take]; rfl)) ?_; (with_reducible refine (tick_Add.calls x8_1 a0 t395 _ A30.out).mono ?_); rintro e w31 ⟨rfl, hb⟩; refine ⟨_, rfl, ?_⟩; have n0_ := Aside0.mk (below_step (by repeat (first | (with_reducible first | exact HB.out | apply below_alloc | apply pw_below_drewN | apply below_drew1) | exact HB.out)) hb); clear HB; have HB := n0_; clear n0_; (try clear hb); (try clear hb2); (try clear hk); (try clear hi)))
       go_roundg k1
       case measure => have := HK1.out; omega
       case rel => exact ⟨(t395), (wrap64 (x9_1 + 1)), (by first | rfl | (simp; done) | (simp [*]; done)), (by first | rfl | (simp; done) | (simp [*]; done)), H', ⟨by have := HK1.out; omega⟩, ⟨by repeat (first | (with_reducible first | exact HB.out | apply below_alloc | apply pw_below_drewN | apply below_drew1) | exact HB.out)⟩⟩
      ·rw [if_neg c29] at H
       have c29b0 : decide (x9_1 < (Go.bits .and .i64 a2 63)) = false := decide_eq_false c29
       clear c29
       replace H := Option.bind_eq_some_iff.mp H
       obtain ⟨t396, A320, H⟩ := H
       replace H : (if t396 = x8_1 then ((berthinglaw01_one.f k1).bind fun t397 => (some t397)) else (none)) = some r := H
       have A32 := Aside0.mk A320
       clear A320
       by_cases c33 : t396 = x8_1
       ·rw [if_pos c33] at H
        have c33b0 : (t396 == x8_1) = true := beq_iff_eq.mpr c33
        have c33b1 : (t396 != x8_1) = false := bne_eq_false_iff_eq.mpr c33
        clear c33
        replace H := Option.bind_eq_some_iff.mp H
        obtain ⟨t397, A340, H⟩ := H
        replace H : (some t397) = some r := H
        have A34 := Aside0.mk A340
        clear A340
        obtain rfl := Option.some.inj H
        go_wp2_with (first | ((with_reducible refine gate_callee (f := 16) rfl ?_); refine goesL_ (some 56) rfl rfl Try.func16 (by kernel_rfl) rfl #[.int .i64 a0, .int .i64 (Go.bits .and .i64 a2 63)] rfl (by (try simp only [List.map_toArray, List.map_cons, List.map_nil]); first | done | rfl | (simp only [List.length_drop, List.length_take]; rfl)) ?_; (with_reducible refine (tick_Times.calls a0 (Go.bits .and .i64 a2 63) t396 _ A32.out).mono ?_); rintro e w35 ⟨rfl, hb⟩; refine ⟨_, rfl, ?_⟩; have n0_ := Aside0.mk (below_step (by repeat (first | (with_reducible first | exact HB.out | apply below_alloc | apply pw_below_drewN | apply below_drew1) | exact HB.out)) hb); clear HB; have HB := n0_; clear n0_; (try clear hb); (try clear hb2); (try clear hk); (try clear hi)) | (go_at_call 12; (with_reducible refine (berthinglaw01_one.calls k1  t397 _ A34.out).mono ?_); rintro e w36 ⟨rfl, hb⟩; have n0_ := Aside0.mk (below_step (by repeat (first | (with_reducible first | exact HB.out | apply below_alloc | apply pw_below_drewN | apply below_drew1) | exact HB.out)) hb); clear HB; have HB := n0_; clear n0_; (try clear hb); (try clear hb2); (try clear hk); (try clear hi)))
        go_ret
        exact ⟨by first | rfl | (simp [errW_none, errW_some] <;> rfl) | (simp [*, errW_none, errW_some] <;> rfl), by repeat (first | (with_reducible first | exact HB.out | apply below_alloc | apply pw_below_drewN | apply below_drew1) | exact HB.out)⟩
       ·rw [if_neg c33] at H
        exact absurd H (by simp)
  ·rw [if_neg c8] at H
   exact absurd H (by simp)

/-- THE ONE PURE STATEMENT of berthinglaw01_TickSteps: yours. -/
def berthinglaw01_TickSteps.Pure : Prop := ∀ (a0 : Int) (a1 : Int) (a2 : Int), (Lit.int .i64 a0).wf = true → (Lit.int .i64 a1).wf = true → (Lit.int .i64 a2).wf = true → ∃ k, berthinglaw01_TickSteps.f k a0 a1 a2 = some true
theorem berthinglaw01_TickSteps.walk (P : berthinglaw01_TickSteps.Pure) (a0 : Int) (a1 : Int) (a2 : Int) (w : World) (w0 : (Lit.int .i64 a0).wf = true) (w1 : (Lit.int .i64 a1).wf = true) (w2 : (Lit.int .i64 a2).wf = true) :
  Calls Try.prog 8 #[.int .i64 a0, .int .i64 a1, .int .i64 a2] w fun e w' => e = .returned (.bool true) ∧ Below w.heap.size w w' := by
 obtain ⟨k, h⟩ := P a0 a1 a2 w0 w1 w2
 refine (berthinglaw01_TickSteps.calls k a0 a1 a2 true w h).mono ?_
 rintro e w' ⟨rfl, hd⟩
 exact ⟨rfl, hd⟩

end Go.Proofs.Ytgdlhfmdgibkbaa.PTick
