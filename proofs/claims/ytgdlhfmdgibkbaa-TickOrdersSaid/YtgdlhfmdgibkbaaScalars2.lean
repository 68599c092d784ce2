/-
  The plain laws of the statements TickOrders, TickSteps, TickSpans of layer tick. Conditions: whole numbers of 64 bits.
-/
import Derived.Test.YtgdlhfmdgibkbaaScalars
namespace Go.Proofs.Ytgdlhfmdgibkbaa.PTick
open Go.RowKit Go.Proofs.YtgdlhfmdgibkbaaW.PrintWords Go.Proofs.YtgdlhfmdgibkbaaW.PrintLast Go.Proofs.YtgdlhfmdgibkbaaW.PrintMore

theorem tms_one (c : Int) (h0 : 0 ≤ c) (h : c ≤ 1099511627776) : tms c 1 = c := by unfold tms; rw [if_neg (by omega), Int.mul_one]; omega
theorem tms_two (c : Int) (h0 : 0 ≤ c) : tms c 2 = min (c + c) 1099511627776 := by unfold tms; rw [if_neg (by omega)]; omega
theorem tms_next (c : Int) (n : Nat) (h0 : 0 ≤ c) (h1 : c ≤ 1099511627776) : cl (cl (tms c n) + c) = tms c ((n : Int) + 1) := by
  unfold tms
  rw [if_neg (show ¬ ((n : Int) + 1 < 1) by omega)]
  have hm : c * ((n : Int) + 1) = c * n + c := by rw [Int.mul_add, Int.mul_one]
  have hp : 0 ≤ c * (n : Int) := Int.mul_nonneg h0 (by omega)
  rw [hm]
  by_cases hn : (n : Int) < 1
  · have : (n : Int) = 0 := by omega
    rw [if_pos hn, this, Int.mul_zero]
    unfold cl; (repeat' split) <;> omega
  · rw [if_neg hn]
    generalize c * (n : Int) = z at *
    unfold cl; (repeat' split) <;> omega

theorem TickOrders_law : berthinglaw01_TickOrders.Pure := by
  intro a b c _ _ _
  have ra := cl_range a
  have rb := cl_range b
  have rc := cl_range c
  refine ⟨8, ?_⟩
  unfold berthinglaw01_TickOrders.f
  simp only [tick_Clamp_tells, Add_tells, Sub_tells, Times_tells, one_tells 8 (by omega), Option.bind_some, cl_cl]
  have e0 : cl (cl b + cl a) = cl (cl a + cl b) := by rw [Int.add_comm]
  have h1 : cl (cl a + cl b) = min 1099511627776 (cl a + cl b) := cl_min (z := cl a + cl b) (by omega)
  have h2 : cl (cl b + cl c) = min 1099511627776 (cl b + cl c) := cl_min (z := cl b + cl c) (by omega)
  have h3 : cl (cl (cl a + cl b) + cl c) = cl (cl a + cl (cl b + cl c)) := by
    rw [cl_min (z := cl (cl a + cl b) + cl c) (by omega), cl_min (z := cl a + cl (cl b + cl c)) (by omega)]
    omega
  have h4 : tms (cl a) 2 = cl (cl a + cl a) := by rw [tms_two _ ra.1, cl_min (z := cl a + cl a) (by omega)]; omega
  rw [e0, if_pos rfl, h3, if_pos rfl, if_neg (by omega)]
  rw [if_pos (Int.le_refl (cl a)), tms_one _ ra.1 ra.2, h4]
  by_cases hs : cl (cl a + cl b) < 1099511627776
  · rw [if_pos hs, if_pos (show (if cl (cl a + cl b) ≤ cl b then 0 else if cl (cl a + cl b) = 1099511627776 then 1099511627776 else cl (cl a + cl b) - cl b) = cl a by (repeat' split) <;> omega)]
    simp
  · rw [if_neg hs]
    simp

theorem TickSteps_loop (a n : Int) (h0 : 0 ≤ n) (hn : n ≤ 63) (d : Nat) : ∀ (k i : Nat), (i : Int) ≤ n → n - i = d → d + 9 ≤ k → berthinglaw01_TickSteps.l0 k a n (tms (cl a) i) i = some true := by
  have ra := cl_range a
  induction d with
  | zero =>
    intro k i hi hd hk
    obtain ⟨k, rfl⟩ : ∃ m, k = m + 1 := ⟨k - 1, by omega⟩
    have hin : (i : Int) = n := by omega
    simp only [berthinglaw01_TickSteps.l0]
    rw [if_neg (by omega), Times_tells, hin]
    simp only [Option.bind_some, if_true]
    rw [one_tells k (by omega)]
    rfl
  | succ d ih =>
    intro k i hi hd hk
    obtain ⟨k, rfl⟩ : ∃ m, k = m + 1 := ⟨k - 1, by omega⟩
    simp only [berthinglaw01_TickSteps.l0]
    rw [if_pos (by omega), Add_tells]
    simp only [Option.bind_some]
    rw [tms_next _ _ ra.1 ra.2, wrap_small (by omega) (by omega)]
    have := ih k (i + 1) (by omega) (by omega) (by omega)
    rw [show ((i + 1 : Nat) : Int) = (i : Int) + 1 from by omega] at this
    exact this

theorem TickSteps_law : berthinglaw01_TickSteps.Pure := by
  intro a st n wa ws wn
  have ra := cl_range a
  have rs := i64_and_le st 65535 (by omega)
  have rn := i64_and_le n 63 (by omega)
  refine ⟨100, ?_⟩
  unfold berthinglaw01_TickSteps.f
  have rs' : 0 ≤ Go.bits .and .i64 st 65535 ∧ Go.bits .and .i64 st 65535 ≤ 65535 := rs
  have rn' : 0 ≤ Go.bits .and .i64 n 63 ∧ Go.bits .and .i64 n 63 ≤ 63 := rn
  clear rs rn
  generalize hm : Go.bits .and .i64 st 65535 = m at *
  generalize hq : Go.bits .and .i64 n 63 = q at *
  rw [wrap_small (by omega) (by omega)]
  obtain ⟨u1, u2⟩ := up_range (cl a) (1 + m) ra.1 ra.2 (by omega)
  have hu : cl (up (cl a) (1 + m)) = up (cl a) (1 + m) := cl_small (by omega) u2
  have hlp := TickSteps_loop a q rn'.1 rn'.2 q.toNat 100 0 (by simpa using rn'.1) (by omega) (by omega)
  rw [show tms (cl a) ((0 : Nat) : Int) = 0 from rfl] at hlp
  simp only [Int.natCast_zero] at hlp
  rw [Up_tells a (1 + m) (by omega) (by omega), tick_Clamp_tells]
  simp only [Option.bind_some]
  rw [if_neg (by omega), Up_tells _ (1 + m) (by omega) (by omega), hu, up_up _ _ ra.1 ra.2 (by omega)]
  simp only [Option.bind_some, if_true]
  by_cases c1 : up (cl a) (1 + m) < 1099511627776
  · rw [if_pos c1, if_neg (by omega), Int.tmod_eq_emod_of_nonneg (by omega), if_pos (up_mult _ _ (by omega) c1), Sub_tells, hu]
    simp only [Option.bind_some]
    have hn := up_near (cl a) (1 + m) ra.1 (by omega) c1
    rw [if_neg (by (repeat' split) <;> omega)]
    exact hlp
  · rw [if_neg c1]
    exact hlp

end Go.Proofs.Ytgdlhfmdgibkbaa.PTick
