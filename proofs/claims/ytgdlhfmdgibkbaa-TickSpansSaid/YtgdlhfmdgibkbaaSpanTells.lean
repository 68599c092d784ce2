/-
  What one span, and two, tell, over the printed functions. Conditions: none.
-/
import Derived.Test.YtgdlhfmdgibkbaaJoinLaw
import Derived.Test.YtgdlhfmdgibkbaaPTickx8
namespace Go.Proofs.Ytgdlhfmdgibkbaa.PTick
open Go.RowKit Go.Proofs.YtgdlhfmdgibkbaaW.PrintWords Go.Proofs.YtgdlhfmdgibkbaaW.PrintLast Go.Proofs.YtgdlhfmdgibkbaaW.PrintMore

theorem Right_tells (a b : Int) : tick_Span_Right.f a b = some (decide (0 ≤ a ∧ a ≤ b ∧ b ≤ 1099511627776)) := by
  unfold tick_Span_Right.f
  rw [clean_tells]
  simp only [Option.bind_some]
  have hc : ∀ x : Int, x = cl x ↔ 0 ≤ x ∧ x ≤ 1099511627776 := by
    intro x
    unfold cl
    (repeat' split) <;> omega
  by_cases h : (a == cl a && (b == cl b)) = true
  · rw [if_pos h]
    simp only [Bool.and_eq_true, beq_iff_eq] at h
    have h1 := (hc a).1 h.1
    have h2 := (hc b).1 h.2
    congr 1
    rw [decide_eq_decide]
    omega
  · rw [if_neg h]
    simp only [Bool.and_eq_true, beq_iff_eq] at h
    congr 1
    symm
    rw [decide_eq_false_iff_not]
    intro hh
    exact h ⟨(hc a).2 (by omega), (hc b).2 (by omega)⟩
theorem Holds_tells (a b t : Int) : tick_Span_Holds.f a b t = some (decide (cl a ≤ cl t ∧ cl t < cl b)) := by
  unfold tick_Span_Holds.f
  rw [clean_tells, tick_Clamp_tells]
  simp only [Option.bind_some]
  split
  · rename_i h
    congr 1
    rw [decide_eq_decide]
    omega
  · rename_i h
    congr 1
    symm
    rw [decide_eq_false_iff_not]
    omega
/-- What two spans have in common. -/
def cut (a b c d : Int) : Int × Int := if min (cl b) (cl d) ≤ max (cl a) (cl c) then (0, 0) else (max (cl a) (cl c), min (cl b) (cl d))
theorem Cut_tells (a b c d : Int) : tick_Span_Cut.f a b c d = some (cut a b c d) := by
  unfold tick_Span_Cut.f cut
  have ra := cl_range a
  have rb := cl_range b
  have rc := cl_range c
  have rd := cl_range d
  have e1 : mx (cl a) (cl c) = max (cl a) (cl c) := by unfold mx; omega
  have e2 : mn (cl b) (cl d) = min (cl b) (cl d) := by unfold mn; omega
  rw [clean_tells, clean_tells]
  simp only [Option.bind_some]
  rw [Empty_tells, e1, e2, cl_small (z := max (cl a) (cl c)) (by omega) (by omega), cl_small (z := min (cl b) (cl d)) (by omega) (by omega)]
  simp only [Option.bind_some, decide_eq_true_eq]
  split <;> rfl
theorem cut_range (a b c d : Int) : (cut a b c d).1 = 0 ∧ (cut a b c d).2 = 0 ∨ 0 ≤ (cut a b c d).1 ∧ (cut a b c d).1 < (cut a b c d).2 ∧ (cut a b c d).2 ≤ 1099511627776 := by
  have ra := cl_range a
  have rb := cl_range b
  have rc := cl_range c
  have rd := cl_range d
  unfold cut
  split
  · exact .inl ⟨rfl, rfl⟩
  · right; simp only []; omega
end Go.Proofs.Ytgdlhfmdgibkbaa.PTick
