/-
  The plain laws of the statements of layer tick that speak of numbers and of two spans: TickOrders, TickSums, TickSteps, TickSpans. Conditions: whole numbers of 64 bits.
-/
import Derived.Test.YtgdlhfmdgibkbaaJoinLaw
import Derived.Test.YtgdlhfmdgibkbaaPTickx7
import Derived.Test.YtgdlhfmdgibkbaaPTickx13
namespace Go.Proofs.Ytgdlhfmdgibkbaa.PTick
open Go.RowKit Go.Proofs.YtgdlhfmdgibkbaaW.PrintWords Go.Proofs.YtgdlhfmdgibkbaaW.PrintLast Go.Proofs.YtgdlhfmdgibkbaaW.PrintMore

theorem bounds64 {n : Int} (h : (Lit.int .i64 n).wf = true) : -9223372036854775808 ≤ n ∧ n ≤ 9223372036854775807 := by
  simp [Lit.wf, IntKind.min, IntKind.max, IntKind.signed, IntKind.bits] at h
  omega
theorem i64_and_le (x : Int) (m : Nat) (hm : m < 9223372036854775808) : 0 ≤ Go.bits .and .i64 x (m : Int) ∧ Go.bits .and .i64 x (m : Int) ≤ m := by
  unfold Go.bits
  simp only [BitVec.toNat_and]
  have h1 : (BitVec.ofInt IntKind.i64.bits (m : Int)).toNat = m := by
    simp only [BitVec.ofInt_natCast, BitVec.toNat_ofNat]
    exact Nat.mod_eq_of_lt (by show m < 2 ^ 64; omega)
  rw [h1]
  have h2 : (BitVec.ofInt IntKind.i64.bits x).toNat &&& m ≤ m := Nat.and_le_right
  rw [IntKind.wrap_i64]
  omega

/-- So often a time, at most 2^40. -/
def tms (c n : Int) : Int := if n < 1 then 0 else min (c * n) 1099511627776
theorem Times_tells (a n : Int) : tick_Times.f a n = some (tms (cl a) n) := by
  unfold tick_Times.f tms
  have ha := cl_range a
  rw [tick_Clamp_tells]
  simp only [Option.bind_some]
  by_cases h1 : n < 1
  · rw [if_pos h1, if_pos h1]
  · rw [if_neg h1, if_neg h1]
    by_cases h2 : cl a = 0
    · rw [if_pos h2, h2, Int.zero_mul]
      rfl
    · rw [if_neg h2]
      have hd0 : 0 ≤ (1099511627776 : Int) / cl a := Int.ediv_nonneg (by omega) ha.1
      have hd1 : (1099511627776 : Int) / cl a ≤ 1099511627776 := Int.ediv_le_self _ (by omega)
      rw [wrap_small (by omega) (by omega)]
      have hiff : n > (1099511627776 : Int) / cl a ↔ 1099511627776 < n * cl a := Int.ediv_lt_iff_lt_mul (by omega)
      rw [Int.mul_comm] at hiff
      by_cases h3 : n > (1099511627776 : Int) / cl a
      · rw [if_pos h3]
        have := hiff.1 h3
        congr 1
        omega
      · rw [if_neg h3]
        have h4 : ¬ 1099511627776 < cl a * n := fun h => h3 (hiff.2 h)
        have h5 : 0 ≤ cl a * n := Int.mul_nonneg ha.1 (by omega)
        rw [wrap_small (by omega) (by omega)]
        congr 1
        omega
theorem refTimes_tells (a n : Int) : berthingref01_Times.f a n = some (tms (cl a) n) := by
  rw [← Times_tells]
  unfold berthingref01_Times.f tick_Times.f
  rw [tick_Clamp_tells, ref_Clamp_tells]
theorem refAdd_tells (a b : Int) : berthingref01_Add.f a b = some (cl (cl a + cl b)) := by
  unfold berthingref01_Add.f
  have ha := cl_range a
  have hb := cl_range b
  rw [ref_Clamp_tells, ref_Clamp_tells]
  simp only [Option.bind_some]
  rw [ref_Clamp_tells, wrap_small (by omega) (by omega)]
  rfl
theorem refSub_tells (a b : Int) : berthingref01_Sub.f a b = some (if cl a ≤ cl b then 0 else if cl a = 1099511627776 then 1099511627776 else cl a - cl b) := by
  unfold berthingref01_Sub.f
  have ha := cl_range a
  have hb := cl_range b
  rw [ref_Clamp_tells, ref_Clamp_tells]
  simp only [Option.bind_some]
  rw [ref_Clamp_tells, wrap_small (by omega) (by omega)]
  simp only [Option.bind_some]
  have hc : cl (cl a - cl b) = if cl a ≤ cl b then 0 else cl a - cl b := by
    unfold cl at ha hb ⊢
    (repeat' split) <;> omega
  rw [hc]
  by_cases h1 : cl a = 1099511627776
  · by_cases h2 : cl b < 1099511627776
    · rw [if_pos h1, if_pos h2, if_neg (by omega), if_pos h1]
    · rw [if_pos h1, if_neg h2, if_pos (by omega), if_pos (by omega)]
  · rw [if_neg h1, if_neg h1]

/-- The first multiple of a step that is not below, at most 2^40. -/
def up (c s : Int) : Int := if c = 1099511627776 then c else if c % s = 0 then c else min 1099511627776 (c + s - c % s)
theorem Up_tells (a s : Int) (h1 : 1 ≤ s) (h2 : s ≤ 9223372036854775807) : tick_Up.f a s = some (up (cl a) s) := by
  unfold tick_Up.f up
  have ha := cl_range a
  rw [tick_Clamp_tells]
  simp only [Option.bind_some]
  rw [if_neg (by omega)]
  by_cases c1 : cl a = 1099511627776
  · rw [if_pos c1, if_pos c1]
  · rw [if_neg c1, if_neg c1, if_neg (by omega), Int.tmod_eq_emod_of_nonneg ha.1]
    have hm0 : 0 ≤ cl a % s := Int.emod_nonneg _ (by omega)
    have hm1 : cl a % s < s := Int.emod_lt_of_pos _ (by omega)
    have hm2 : cl a % s ≤ cl a := by have := Int.mul_ediv_add_emod (cl a) s; have := Int.mul_nonneg (show 0 ≤ s by omega) (Int.ediv_nonneg ha.1 (show 0 ≤ s by omega)); omega
    by_cases c2 : cl a % s = 0
    · rw [if_pos c2, if_pos c2]
    · rw [if_neg c2, if_neg c2, wrap_small (by omega) (by omega), Add_tells, cl_cl]
      simp only [Option.bind_some]
      congr 1
      have hcl : ∀ z : Int, 0 ≤ z → cl z = min 1099511627776 z := by intro z hz; unfold cl; (repeat' split) <;> omega
      rw [hcl (s - cl a % s) (by omega), hcl _ (by omega)]
      omega


theorem refUp_tells (a s : Int) (h1 : 1 ≤ s) (h2 : s ≤ 9223372036854775807) : berthingref01_Up.f a s = some (up (cl a) s) := by
  unfold berthingref01_Up.f up
  have ha := cl_range a
  rw [ref_Clamp_tells]
  simp only [Option.bind_some]
  rw [if_neg (by omega)]
  by_cases c1 : cl a = 1099511627776
  · rw [if_pos c1, if_pos c1]
  · rw [if_neg c1, if_neg c1, if_neg (by omega), Int.tmod_eq_emod_of_nonneg ha.1]
    have hm0 : 0 ≤ cl a % s := Int.emod_nonneg _ (by omega)
    have hm1 : cl a % s < s := Int.emod_lt_of_pos _ (by omega)
    have hm2 : cl a % s ≤ cl a := by have := Int.mul_ediv_add_emod (cl a) s; have := Int.mul_nonneg (show 0 ≤ s by omega) (Int.ediv_nonneg ha.1 (show 0 ≤ s by omega)); omega
    by_cases c2 : cl a % s = 0
    · rw [if_pos c2, if_pos c2]
    · rw [if_neg c2, if_neg c2]
      by_cases c3 : s ≥ 1099511627776
      · rw [if_pos c3]
        congr 1
        omega
      · rw [if_neg c3, wrap_small (x := cl a - cl a % s) (by omega) (by omega), wrap_small (by omega) (by omega), ref_Clamp_tells]
        simp only [Option.bind_some]
        have hcl : ∀ z : Int, 0 ≤ z → cl z = min 1099511627776 z := by intro z hz; unfold cl; (repeat' split) <;> omega
        rw [hcl _ (by omega)]
        congr 1
        omega
theorem Up_low (a s : Int) (h : s < 1) : tick_Up.f a s = some (cl a) ∧ berthingref01_Up.f a s = some (cl a) := by
  unfold tick_Up.f berthingref01_Up.f
  rw [tick_Clamp_tells, ref_Clamp_tells]
  simp only [Option.bind_some]
  rw [if_pos h, if_pos h]
  exact ⟨rfl, rfl⟩
theorem up_range (c s : Int) (h0 : 0 ≤ c) (h : c ≤ 1099511627776) (hs : 1 ≤ s) : c ≤ up c s ∧ up c s ≤ 1099511627776 := by
  have hm1 : c % s < s := Int.emod_lt_of_pos _ (by omega)
  unfold up
  split
  · omega
  · split <;> omega
theorem up_mult (c s : Int) (hs : 1 ≤ s) (h : up c s < 1099511627776) : up c s % s = 0 := by
  unfold up at h ⊢
  by_cases c1 : c = 1099511627776
  · rw [if_pos c1] at h; omega
  · rw [if_neg c1] at h ⊢
    by_cases c2 : c % s = 0
    · rw [if_pos c2]; exact c2
    · rw [if_neg c2] at h ⊢
      have e : min 1099511627776 (c + s - c % s) = s * (c / s + 1) := by
        have := Int.mul_ediv_add_emod c s
        rw [Int.mul_add, Int.mul_one]
        omega
      rw [e, Int.mul_emod_right]
theorem up_near (c s : Int) (h0 : 0 ≤ c) (hs : 1 ≤ s) (h : up c s < 1099511627776) : up c s - c < s := by
  have hm0 : 0 ≤ c % s := Int.emod_nonneg _ (by omega)
  unfold up at h ⊢
  by_cases c1 : c = 1099511627776
  · rw [if_pos c1] at h; omega
  · rw [if_neg c1] at h ⊢
    by_cases c2 : c % s = 0
    · rw [if_pos c2]; omega
    · rw [if_neg c2] at h ⊢
      omega
theorem up_up (c s : Int) (h0 : 0 ≤ c) (h : c ≤ 1099511627776) (hs : 1 ≤ s) : up (up c s) s = up c s := by
  obtain ⟨_, h2⟩ := up_range c s h0 h hs
  generalize hu : up c s = u at *
  by_cases c1 : u = 1099511627776
  · unfold up; rw [if_pos c1]
  · have := up_mult c s hs (by rw [hu]; omega)
    rw [hu] at this
    unfold up
    rw [if_neg c1, if_pos this]

theorem cl_small {z : Int} (h0 : 0 ≤ z) (h1 : z ≤ 1099511627776) : cl z = z := by unfold cl; (repeat' split) <;> omega
theorem cl_min {z : Int} (h0 : 0 ≤ z) : cl z = min 1099511627776 z := by unfold cl; (repeat' split) <;> omega
theorem cl_mono {a b : Int} (h : a ≤ b) : cl a ≤ cl b := by unfold cl; (repeat' split) <;> omega

theorem TickSums_law : berthinglaw01_TickSums.Pure := by
  intro a b n wa wb wn
  have ra := bounds64 wa
  have rb := bounds64 wb
  refine ⟨8, ?_⟩
  unfold berthinglaw01_TickSums.f
  rw [tick_Clamp_tells, ref_Clamp_tells, Add_tells, refAdd_tells, Sub_tells, refSub_tells, Times_tells, refTimes_tells, one_tells 8 (by omega)]
  simp only [Option.bind_some, if_true]
  by_cases hs : b < 1
  · obtain ⟨h1, h2⟩ := Up_low a b hs
    rw [h1, h2]
    simp
  · rw [Up_tells a b (by omega) (by omega), refUp_tells a b (by omega) (by omega)]
    simp

end Go.Proofs.Ytgdlhfmdgibkbaa.PTick
