/-
  The plain law of the statement TickSpans of layer tick. Conditions: whole numbers of 64 bits.
-/
import Derived.Test.YtgdlhfmdgibkbaaRefAdd
import Derived.Test.YtgdlhfmdgibkbaaSpanTells
import Derived.Test.YtgdlhfmdgibkbaaPTickx12
import Derived.Test.YtgdlhfmdgibkbaaPTickx11
namespace Go.Proofs.Ytgdlhfmdgibkbaa.PTick
open Go.RowKit Go.Proofs.YtgdlhfmdgibkbaaW.PrintWords Go.Proofs.YtgdlhfmdgibkbaaW.PrintLast Go.Proofs.YtgdlhfmdgibkbaaW.PrintMore

theorem refHolds_tells (a b t : Int) : berthingref01_Span_Holds.f a b t = some (decide (cl a ≤ cl t ∧ cl t < cl b)) := by
  unfold berthingref01_Span_Holds.f
  have ht := cl_range t
  have ha := cl_range a
  rw [refClean_tells, ref_Clamp_tells]
  simp only [Option.bind_some]
  by_cases c : cl a ≥ cl b
  · rw [if_pos c]
    simp only []
    rw [if_pos (by omega)]
    congr 1
    rw [decide_eq_decide]
    omega
  · rw [if_neg c]
    simp only []
    split
    · congr 1
      rw [decide_eq_decide]
      omega
    · congr 1
      symm
      rw [decide_eq_false_iff_not]
      omega
theorem refCut_tells (a b c d : Int) : berthingref01_Span_Cut.f a b c d = some (cut a b c d) := by
  unfold berthingref01_Span_Cut.f cut
  have ra := cl_range a
  have rb := cl_range b
  have rc := cl_range c
  have rd := cl_range d
  have z0 : cl 0 = 0 := rfl
  rw [refClean_tells, refClean_tells]
  simp only [Option.bind_some]
  rw [refClean_tells]
  simp only [Option.bind_some]
  congr 1
  have em : ∀ x y : Int, mx x y = max x y := by intro x y; unfold mx; omega
  have en : ∀ x y : Int, mn x y = min x y := by intro x y; unfold mn; omega
  simp only [em, en]
  by_cases c1 : cl a ≥ cl b
  · rw [if_pos c1]
    by_cases c2 : cl c ≥ cl d
    · rw [if_pos c2, if_pos (c := min (cl b) (cl d) ≤ max (cl a) (cl c)) (by omega)]
      rfl
    · rw [if_neg c2, if_pos (c := min (cl b) (cl d) ≤ max (cl a) (cl c)) (by omega)]
      simp only []
      rw [show max 0 (cl c) = cl c from by omega, show min 0 (cl d) = 0 from by omega, z0, if_pos (by have := cl_range (cl c); omega)]
  · rw [if_neg c1]
    by_cases c2 : cl c ≥ cl d
    · rw [if_pos c2, if_pos (c := min (cl b) (cl d) ≤ max (cl a) (cl c)) (by omega)]
      simp only []
      rw [show max (cl a) 0 = cl a from by omega, show min (cl b) 0 = 0 from by omega, z0, if_pos (by have := cl_range (cl a); omega)]
    · rw [if_neg c2]
      simp only []
      rw [cl_small (z := max (cl a) (cl c)) (by omega) (by omega), cl_small (z := min (cl b) (cl d)) (by omega) (by omega)]
theorem Meets_tells (a b c d : Int) : tick_Span_Meets.f a b c d = some (!(cut a b c d).1 == 0 || !(cut a b c d).2 == 0) := by
  unfold tick_Span_Meets.f
  rw [Cut_tells]
  simp only [Option.bind_some]
  rw [Empty_tells]
  simp only [Option.bind_some]
  rcases cut_range a b c d with ⟨h1, h2⟩ | ⟨h1, h2, h3⟩
  · rw [h1, h2]; rfl
  · rw [cl_small (z := (cut a b c d).1) h1 (by omega), cl_small (z := (cut a b c d).2) (by omega) h3]
    congr 1
    have e2 : ((cut a b c d).2 == 0) = false := beq_eq_false_iff_ne.2 (by omega)
    rw [e2, decide_eq_false (by omega)]
    simp
theorem Len_tells (a b : Int) : tick_Span_Len.f a b = some (if cl b ≤ cl a then 0 else if cl b = 1099511627776 then 1099511627776 else cl b - cl a) := by
  unfold tick_Span_Len.f
  have ra := cl_range a
  have rb := cl_range b
  have en : mn (cl a) (cl b) = min (cl a) (cl b) := by unfold mn; omega
  rw [clean_tells]
  simp only [Option.bind_some]
  rw [Sub_tells, en, cl_cl, cl_small (z := min (cl a) (cl b)) (by omega) (by omega)]
  simp only [Option.bind_some]
  congr 1
  (repeat' split) <;> omega
theorem refLen_tells (a b : Int) : berthingref01_Span_Len.f a b = some (if cl b ≤ cl a then 0 else if cl b = 1099511627776 then 1099511627776 else cl b - cl a) := by
  unfold berthingref01_Span_Len.f
  have ra := cl_range a
  have rb := cl_range b
  rw [refClean_tells]
  simp only [Option.bind_some]
  by_cases c : cl a ≥ cl b
  · rw [if_pos c, if_pos (show cl b ≤ cl a from c)]
    show (if (0 : Int) = 1099511627776 then some 1099511627776 else some (wrap64 (0 - 0))) = some 0
    rw [if_neg (by omega), wrap_small (by omega) (by omega)]
    rfl
  · rw [if_neg c, if_neg (show ¬ cl b ≤ cl a from c)]
    simp only []
    rw [wrap_small (by omega) (by omega)]
    split <;> rfl
theorem Of_tells (a b : Int) : tick_Of.f a b = some (cl a, cl (cl a + cl b)) := by
  unfold tick_Of.f
  rw [tick_Clamp_tells, Add_tells]
  rfl

theorem TickSpans_law (a b c d t : Int) : berthinglaw01_TickSpans.f 9 a b c d t = some true := by
  have key : ∀ x : Bool, x = decide (0 ≤ a ∧ a ≤ b ∧ b ≤ 1099511627776) → berthinglaw01_TickSpans.j0 9 t x a b c d a b (cut a b c d).1 (cut a b c d).2 = some true := by
    intro x hx
    have ra := cl_range a
    have rb := cl_range b
    simp only [berthinglaw01_TickSpans.j0]
    simp only [Of_tells, Right_tells, Empty_tells, refClean_tells, Holds_tells, refHolds_tells, Cut_tells, Own_tells, Meets_tells, Len_tells, refLen_tells, ref_Clamp_tells, refAdd_tells, one_tells 8 (by omega), Option.bind_some, hx, beq_self_eq_true, if_true, Bool.and_self]
    rw [if_pos ?_]
    by_cases h : cl a ≥ cl b
    · rw [if_pos h, decide_eq_true (show cl b ≤ cl a from h)]
      rfl
    · rw [if_neg h, decide_eq_false (show ¬ cl b ≤ cl a from h)]
      have : (cl b == 0) = false := beq_eq_false_iff_ne.2 (by omega)
      simp [this]
  unfold berthinglaw01_TickSpans.f
  rw [Own_tells, Own_tells]
  simp only [Option.bind_some]
  rw [refCut_tells]
  simp only [Option.bind_some]
  by_cases h1 : a ≥ 0
  · rw [if_pos h1]
    by_cases h2 : a ≤ b
    · rw [if_pos h2]
      exact key _ (by rw [decide_eq_decide]; omega)
    · rw [if_neg h2]
      exact key _ (by symm; rw [decide_eq_false_iff_not]; omega)
  · rw [if_neg h1]
    exact key _ (by symm; rw [decide_eq_false_iff_not]; omega)

end Go.Proofs.Ytgdlhfmdgibkbaa.PTick
