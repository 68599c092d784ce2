/- Plain: the test of a command that was read is the reference's. Conditions: none. -/
import Derived.Test.YtkkjjogbfjahgaaDoorSmD
set_option linter.unusedVariables false
set_option linter.unusedSimpArgs false
/- Plain: a command that is read of bytes, by the program and by the reference. -/
namespace Go.Proofs.YtkkjjogbfjahgaaDoor.Sm
open Go Go.Proofs Go.RowKit Go.Proofs.CodBytes Go.Proofs.YtkkjjogbfjahgaaDoorW.PrintWords Go.Proofs.YtkkjjogbfjahgaaDoorW.PrintLast Go.Proofs.YtkkjjogbfjahgaaDoorW.PrintMore Go.Proofs.YtkkjjogbfjahgaaDoor.PSc Go.Proofs.YtkkjjogbfjahgaaDoor.CodSame Go.Proofs.YtkkjjogbfjahgaaDoor.Cur Go.Proofs.YtkkjjogbfjahgaaDoor.Sc
/-- the program's test of what it has read -/
def goodP (c : S39) (v : List Int) : Prop := rightC c = true ∧ (cleanC c).f0 :: ownF (cleanC c) = v
def goodQ (k : Int) (F : List Int) : Prop := rightR k F = true ∧ cleanR k F = (k, F)
section
variable (k v : Int)
theorem m45 : mayB k 45 v = true := rfl
theorem m73 : mayB k 73 v = inB v 1 1073741824 := by unfold mayB berthingref22_may.f inB; by_cases h : v ≥ 1 <;> simp [h] <;> omega
theorem m85 : mayB k 85 v = inB v 1 16 := by unfold mayB berthingref22_may.f inB; by_cases h : v ≥ 1 <;> simp [h] <;> omega
theorem m80 : mayB k 80 v = inB v 0 3 := by unfold mayB berthingref22_may.f inB; by_cases h : v ≥ 0 <;> simp [h] <;> omega
theorem m87 : mayB k 87 v = inB v 1 64 := by unfold mayB berthingref22_may.f inB; by_cases h : v ≥ 1 <;> simp [h] <;> omega
theorem m78 : mayB k 78 v = inB v (-100) 100 := by unfold mayB berthingref22_may.f inB; by_cases h : v ≥ -100 <;> simp [h] <;> omega
theorem m65 : mayB k 65 v = inB v 0 1073741824 := by unfold mayB berthingref22_may.f inB; by_cases h : v ≥ 0 <;> simp [h] <;> omega
theorem m110 : mayB k 110 v = inB v 0 63 := by unfold mayB berthingref22_may.f inB; by_cases h : v ≥ 0 <;> simp [h] <;> omega
theorem m119 : mayB k 119 v = inB v 0 4 := by unfold mayB berthingref22_may.f inB; by_cases h : v ≥ 0 <;> simp [h] <;> omega
theorem m84 : mayB k 84 v = if k = 1 ∨ k = 5 then inB v 1 1048576 else inB v 0 1099511627775 := by
  unfold mayB berthingref22_may.f inB
  by_cases h1 : k = 1
  · by_cases h : v ≥ 1 <;> simp [h1, h] <;> omega
  by_cases h5 : k = 5
  · by_cases h : v ≥ 1 <;> simp [h5, h] <;> omega
  by_cases h : v ≥ 0 <;> simp [h1, h5, h] <;> omega
theorem m77 : mayB k 77 v = inB v 1 1099511627775 := by unfold mayB berthingref22_may.f inB; by_cases h : v ≥ 1 <;> simp [h] <;> omega
theorem m72 : mayB k 72 v = (v == 0 || v == 1) := by unfold mayB berthingref22_may.f; by_cases h : v = 0 <;> simp [h]
end
section
variable (a1 a2 a3 a4 a5 a6 a7 a8 a9 a10 a11 : Int)
theorem rR1 : rightR 1 [a1, a2, a3, a4, a5, a6, a7, a8, a9, a10, a11] = ((mayB 1 45 a1 && (mayB 1 85 a2 && (mayB 1 80 a3 && (mayB 1 87 a4 && (mayB 1 78 a5 && (mayB 1 65 a6 && (mayB 1 45 a7 && (mayB 1 45 a8 && (mayB 1 84 a9 && (mayB 1 45 a10 && (mayB 1 72 a11 && true))))))))))) && true) := rfl
theorem cR1 : cleanR 1 [a1, a2, a3, a4, a5, a6, a7, a8, a9, a10, a11] = (1, [0, a2, a3, a4, a5, a6, 0, 0, a9, 0, a11]) := rfl
theorem rR2 : rightR 2 [a1, a2, a3, a4, a5, a6, a7, a8, a9, a10, a11] = ((mayB 2 73 a1 && (mayB 2 45 a2 && (mayB 2 45 a3 && (mayB 2 45 a4 && (mayB 2 45 a5 && (mayB 2 45 a6 && (mayB 2 45 a7 && (mayB 2 45 a8 && (mayB 2 45 a9 && (mayB 2 45 a10 && (mayB 2 45 a11 && true))))))))))) && true) := rfl
theorem cR2 : cleanR 2 [a1, a2, a3, a4, a5, a6, a7, a8, a9, a10, a11] = (2, [a1, 0, 0, 0, 0, 0, 0, 0, 0, 0, 0]) := rfl
theorem rR3 : rightR 3 [a1, a2, a3, a4, a5, a6, a7, a8, a9, a10, a11] = ((mayB 3 73 a1 && (mayB 3 45 a2 && (mayB 3 45 a3 && (mayB 3 45 a4 && (mayB 3 45 a5 && (mayB 3 45 a6 && (mayB 3 45 a7 && (mayB 3 45 a8 && (mayB 3 45 a9 && (mayB 3 45 a10 && (mayB 3 45 a11 && true))))))))))) && true) := rfl
theorem cR3 : cleanR 3 [a1, a2, a3, a4, a5, a6, a7, a8, a9, a10, a11] = (3, [a1, 0, 0, 0, 0, 0, 0, 0, 0, 0, 0]) := rfl
theorem rR4 : rightR 4 [a1, a2, a3, a4, a5, a6, a7, a8, a9, a10, a11] = ((mayB 4 73 a1 && (mayB 4 45 a2 && (mayB 4 45 a3 && (mayB 4 45 a4 && (mayB 4 45 a5 && (mayB 4 45 a6 && (mayB 4 45 a7 && (mayB 4 45 a8 && (mayB 4 45 a9 && (mayB 4 45 a10 && (mayB 4 45 a11 && true))))))))))) && true) := rfl
theorem cR4 : cleanR 4 [a1, a2, a3, a4, a5, a6, a7, a8, a9, a10, a11] = (4, [a1, 0, 0, 0, 0, 0, 0, 0, 0, 0, 0]) := rfl
theorem rR12 : rightR 12 [a1, a2, a3, a4, a5, a6, a7, a8, a9, a10, a11] = ((mayB 12 73 a1 && (mayB 12 45 a2 && (mayB 12 45 a3 && (mayB 12 45 a4 && (mayB 12 45 a5 && (mayB 12 45 a6 && (mayB 12 45 a7 && (mayB 12 45 a8 && (mayB 12 45 a9 && (mayB 12 45 a10 && (mayB 12 45 a11 && true))))))))))) && true) := rfl
theorem cR12 : cleanR 12 [a1, a2, a3, a4, a5, a6, a7, a8, a9, a10, a11] = (12, [a1, 0, 0, 0, 0, 0, 0, 0, 0, 0, 0]) := rfl
theorem rR5 : rightR 5 [a1, a2, a3, a4, a5, a6, a7, a8, a9, a10, a11] = ((mayB 5 73 a1 && (mayB 5 45 a2 && (mayB 5 45 a3 && (mayB 5 45 a4 && (mayB 5 45 a5 && (mayB 5 45 a6 && (mayB 5 45 a7 && (mayB 5 45 a8 && (mayB 5 84 a9 && (mayB 5 45 a10 && (mayB 5 45 a11 && true))))))))))) && true) := rfl
theorem cR5 : cleanR 5 [a1, a2, a3, a4, a5, a6, a7, a8, a9, a10, a11] = (5, [a1, 0, 0, 0, 0, 0, 0, 0, a9, 0, 0]) := rfl
theorem rR6 : rightR 6 [a1, a2, a3, a4, a5, a6, a7, a8, a9, a10, a11] = ((mayB 6 45 a1 && (mayB 6 45 a2 && (mayB 6 80 a3 && (mayB 6 87 a4 && (mayB 6 45 a5 && (mayB 6 45 a6 && (mayB 6 45 a7 && (mayB 6 45 a8 && (mayB 6 84 a9 && (mayB 6 77 a10 && (mayB 6 45 a11 && true))))))))))) && true) := rfl
theorem cR6 : cleanR 6 [a1, a2, a3, a4, a5, a6, a7, a8, a9, a10, a11] = (6, [0, 0, a3, a4, 0, 0, 0, 0, a9, a10, 0]) := rfl
theorem rR7 : rightR 7 [a1, a2, a3, a4, a5, a6, a7, a8, a9, a10, a11] = ((mayB 7 73 a1 && (mayB 7 45 a2 && (mayB 7 80 a3 && (mayB 7 45 a4 && (mayB 7 45 a5 && (mayB 7 45 a6 && (mayB 7 45 a7 && (mayB 7 45 a8 && (mayB 7 45 a9 && (mayB 7 45 a10 && (mayB 7 45 a11 && true))))))))))) && true) := rfl
theorem cR7 : cleanR 7 [a1, a2, a3, a4, a5, a6, a7, a8, a9, a10, a11] = (7, [a1, 0, a3, 0, 0, 0, 0, 0, 0, 0, 0]) := rfl
theorem rR8 : rightR 8 [a1, a2, a3, a4, a5, a6, a7, a8, a9, a10, a11] = ((mayB 8 45 a1 && (mayB 8 45 a2 && (mayB 8 80 a3 && (mayB 8 87 a4 && (mayB 8 45 a5 && (mayB 8 45 a6 && (mayB 8 45 a7 && (mayB 8 45 a8 && (mayB 8 45 a9 && (mayB 8 45 a10 && (mayB 8 45 a11 && true))))))))))) && true) := rfl
theorem cR8 : cleanR 8 [a1, a2, a3, a4, a5, a6, a7, a8, a9, a10, a11] = (8, [0, 0, a3, a4, 0, 0, 0, 0, 0, 0, 0]) := rfl
theorem rR9 : rightR 9 [a1, a2, a3, a4, a5, a6, a7, a8, a9, a10, a11] = ((mayB 9 45 a1 && (mayB 9 45 a2 && (mayB 9 80 a3 && (mayB 9 45 a4 && (mayB 9 45 a5 && (mayB 9 45 a6 && (mayB 9 45 a7 && (mayB 9 45 a8 && (mayB 9 45 a9 && (mayB 9 45 a10 && (mayB 9 45 a11 && true))))))))))) && true) := rfl
theorem cR9 : cleanR 9 [a1, a2, a3, a4, a5, a6, a7, a8, a9, a10, a11] = (9, [0, 0, a3, 0, 0, 0, 0, 0, 0, 0, 0]) := rfl
theorem rR10 : rightR 10 [a1, a2, a3, a4, a5, a6, a7, a8, a9, a10, a11] = ((mayB 10 45 a1 && (mayB 10 45 a2 && (mayB 10 45 a3 && (mayB 10 45 a4 && (mayB 10 45 a5 && (mayB 10 45 a6 && (mayB 10 45 a7 && (mayB 10 45 a8 && (mayB 10 84 a9 && (mayB 10 45 a10 && (mayB 10 45 a11 && true))))))))))) && true) := rfl
theorem cR10 : cleanR 10 [a1, a2, a3, a4, a5, a6, a7, a8, a9, a10, a11] = (10, [0, 0, 0, 0, 0, 0, 0, 0, a9, 0, 0]) := rfl
theorem rR11 : rightR 11 [a1, a2, a3, a4, a5, a6, a7, a8, a9, a10, a11] = ((mayB 11 45 a1 && (mayB 11 45 a2 && (mayB 11 80 a3 && (mayB 11 45 a4 && (mayB 11 45 a5 && (mayB 11 45 a6 && (mayB 11 110 a7 && (mayB 11 119 a8 && (mayB 11 45 a9 && (mayB 11 45 a10 && (mayB 11 45 a11 && true))))))))))) && true) := rfl
theorem cR11 : cleanR 11 [a1, a2, a3, a4, a5, a6, a7, a8, a9, a10, a11] = (11, [0, 0, a3, 0, 0, 0, a7, a8, 0, 0, 0]) := rfl
end
theorem kindR_in (k : Int) (h : 1 ≤ k ∧ k ≤ 12) : kindR k = k := if_pos h
theorem good_same (k a1 a2 a3 a4 a5 a6 a7 a8 a9 a10 v : Int) :
    goodP ⟨k, a1, a2, a3, a4, a5, a6, a7, a8, a9, a10, v == 1⟩ [k, a1, a2, a3, a4, a5, a6, a7, a8, a9, a10, v] ↔ goodQ (kindR k) [a1, a2, a3, a4, a5, a6, a7, a8, a9, a10, v] ∧ kindR k = k := by
  by_cases hk : 1 ≤ k ∧ k ≤ 12
  · rw [kindR_in k hk]
    rcases (show k = 1 ∨ k = 2 ∨ k = 3 ∨ k = 4 ∨ k = 5 ∨ k = 6 ∨ k = 7 ∨ k = 8 ∨ k = 9 ∨ k = 10 ∨ k = 11 ∨ k = 12 by omega) with rfl | rfl | rfl | rfl | rfl | rfl | rfl | rfl | rfl | rfl | rfl | rfl
    · unfold goodP goodQ
      rw [rR1, cR1]
      simp only [m45, m73, m85, m80, m87, m78, m65, m110, m119, m84, m77, m72]
      simp [rightC, cleanC, ownF, inB] <;> (try omega)
    · unfold goodP goodQ
      rw [rR2, cR2]
      simp only [m45, m73, m85, m80, m87, m78, m65, m110, m119, m84, m77, m72]
      simp [rightC, cleanC, ownF, inB] <;> (try omega)
    · unfold goodP goodQ
      rw [rR3, cR3]
      simp only [m45, m73, m85, m80, m87, m78, m65, m110, m119, m84, m77, m72]
      simp [rightC, cleanC, ownF, inB] <;> (try omega)
    · unfold goodP goodQ
      rw [rR4, cR4]
      simp only [m45, m73, m85, m80, m87, m78, m65, m110, m119, m84, m77, m72]
      simp [rightC, cleanC, ownF, inB] <;> (try omega)
    · unfold goodP goodQ
      rw [rR5, cR5]
      simp only [m45, m73, m85, m80, m87, m78, m65, m110, m119, m84, m77, m72]
      simp [rightC, cleanC, ownF, inB] <;> (try omega)
    · unfold goodP goodQ
      rw [rR6, cR6]
      simp only [m45, m73, m85, m80, m87, m78, m65, m110, m119, m84, m77, m72]
      simp [rightC, cleanC, ownF, inB] <;> (try omega)
    · unfold goodP goodQ
      rw [rR7, cR7]
      simp only [m45, m73, m85, m80, m87, m78, m65, m110, m119, m84, m77, m72]
      simp [rightC, cleanC, ownF, inB] <;> (try omega)
    · unfold goodP goodQ
      rw [rR8, cR8]
      simp only [m45, m73, m85, m80, m87, m78, m65, m110, m119, m84, m77, m72]
      simp [rightC, cleanC, ownF, inB] <;> (try omega)
    · unfold goodP goodQ
      rw [rR9, cR9]
      simp only [m45, m73, m85, m80, m87, m78, m65, m110, m119, m84, m77, m72]
      simp [rightC, cleanC, ownF, inB] <;> (try omega)
    · unfold goodP goodQ
      rw [rR10, cR10]
      simp only [m45, m73, m85, m80, m87, m78, m65, m110, m119, m84, m77, m72]
      simp [rightC, cleanC, ownF, inB] <;> (try omega)
    · unfold goodP goodQ
      rw [rR11, cR11]
      simp only [m45, m73, m85, m80, m87, m78, m65, m110, m119, m84, m77, m72]
      simp [rightC, cleanC, ownF, inB] <;> (try omega)
    · unfold goodP goodQ
      rw [rR12, cR12]
      simp only [m45, m73, m85, m80, m87, m78, m65, m110, m119, m84, m77, m72]
      simp [rightC, cleanC, ownF, inB] <;> (try omega)
  · have h0 : kindR k = 0 := if_neg hk
    have h1 : ¬ goodP ⟨k, a1, a2, a3, a4, a5, a6, a7, a8, a9, a10, v == 1⟩ [k, a1, a2, a3, a4, a5, a6, a7, a8, a9, a10, v] := by
      intro h
      have h2 := h.1
      unfold rightC at h2
      dsimp only at h2
      rw [if_neg (by omega), if_neg (by omega), if_neg (by omega), if_neg (by omega), if_neg (by omega), if_neg (by omega), if_neg (by omega), if_neg (by omega), if_neg (by omega)] at h2
      cases h2
    rw [h0]
    refine ⟨fun h => absurd h h1, fun h => ?_⟩
    have h2 : rightR 0 [a1, a2, a3, a4, a5, a6, a7, a8, a9, a10, v] = false := rfl
    exact absurd (h2.symm.trans h.1.1) (by simp)
end Go.Proofs.YtkkjjogbfjahgaaDoor.Sm
