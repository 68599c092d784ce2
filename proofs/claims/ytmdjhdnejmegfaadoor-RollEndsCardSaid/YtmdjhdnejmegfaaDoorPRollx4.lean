/- By a program of this session (the print, with contracts written by hand let in), key Roll: what the functions come to as Lean functions, and the contracts that lead from the Go code to them. Conditions: those of the statements. -/
import Derived.Test.YtmdjhdnejmegfaaDoorPRollx0
import Derived.Test.YtmdjhdnejmegfaaDoorPRollx1
import Derived.Test.YtmdjhdnejmegfaaDoorPRollx2
import Derived.Test.YtmdjhdnejmegfaaDoorPRollx3
import Derived.Test.YtmdjhdnejmegfaaDoorRollNext2
namespace Go.Proofs.YtmdjhdnejmegfaaDoor.PRoll
open Go.RowKit Go.Proofs.YtmdjhdnejmegfaaDoorW.PrintWords Go.Proofs.YtmdjhdnejmegfaaDoorW.PrintLast Go.Proofs.YtmdjhdnejmegfaaDoorW.PrintMore
attribute [local go_sem] max2_int min2_int max_two min_two max_three min_three max_four min_four   -- for this text's walks alone
set_option linter.unusedVariables false
set_option linter.unusedSimpArgs false

/-! ### berthinglaw21_RollEnds: function 3 -/
mutual
def berthinglaw21_RollEnds.l0 : Nat → Int → Int → List Int → Int → Int → Int → Int → Int → Int → Int → Option (Bool)
 | 0, _, _, _, _, _, _, _, _, _, _ => none
 | k + 1, x0, x1, x2, x8, x9, x10, x163000, x163001, x163002, x163003 => if x10 < 300 then ((roll_Roll_Over.f x163000 x163001 x163002 x163003 x1).bind fun t163 => (berthinglaw21_RollEnds.j1 k x0 x1 x2 x8 x9 x10 (!t163) x163000 x163001 x163002 x163003)) else (berthinglaw21_RollEnds.j1 k x0 x1 x2 x8 x9 x10 false x163000 x163001 x163002 x163003)
def berthinglaw21_RollEnds.j1 : Nat → Int → Int → List Int → Int → Int → Int → Bool → Int → Int → Int → Int → Option (Bool)
 | 0, _, _, _, _, _, _, _, _, _, _, _ => none
 | k + 1, x0, x1, x2, x8, x9, x10, x29, x163000, x163001, x163002, x163003 => if x29 = true then ((bits_First.f x1).bind fun t167 => (if x10 < (x2.length : Int) then (if 0 ≤ x10 then ((bits_Set_And.f (rd x2 x10) t167).bind fun t169 => ((bits_Set_Less.f t169 x163002).bind fun t170 => (berthinglaw21_RollEnds.j2 k x0 x1 x2 x8 x9 x10 t167 (t170 != 0) x163000 x163001 x163002 x163003))) else (none)) else (berthinglaw21_RollEnds.j2 k x0 x1 x2 x8 x9 x10 t167 false x163000 x163001 x163002 x163003))) else ((roll_Roll_Over.f x163000 x163001 x163002 x163003 x1).bind fun t164 => (if t164 = true then (if x9 ≤ x1 then ((bits_First.f x1).bind fun t165 => (if x163002 = t165 then ((berthinglaw21_one.f k).bind fun t166 => (some t166)) else (none))) else (none)) else (none)))
def berthinglaw21_RollEnds.j2 : Nat → Int → Int → List Int → Int → Int → Int → Int → Bool → Int → Int → Int → Int → Option (Bool)
 | 0, _, _, _, _, _, _, _, _, _, _, _, _ => none
 | k + 1, x0, x1, x2, x8, x9, x10, x11, x49, x163000, x163001, x163002, x163003 => if x49 = true then (if 0 ≤ x10 then (if x10 < (x2.length : Int) then ((bits_Set_And.f (rd x2 x10) x11).bind fun t172 => (berthinglaw21_RollEnds.j3 k x0 x1 x2 x8 x9 x10 t172 x163000 x163001 x163002 x163003)) else (none)) else (none)) else (berthinglaw21_RollEnds.j3 k x0 x1 x2 x8 x9 x10 x11 x163000 x163001 x163002 x163003)
def berthinglaw21_RollEnds.j3 : Nat → Int → Int → List Int → Int → Int → Int → Int → Int → Int → Int → Int → Option (Bool)
 | 0, _, _, _, _, _, _, _, _, _, _, _ => none
 | k + 1, x0, x1, x2, x8, x9, x10, x11, x163000, x163001, x163002, x163003 => (roll_Roll_Next.f x163000 x163001 x163002 x163003 x10 x11).bind fun t173 => (if t173 = 0 then (berthinglaw21_RollEnds.j4 k x0 x1 x2 x8 x9 x10 t173 true x163000 x163001 x163002 x163003) else ((bits_Set_And.f t173 x8).bind fun t174 => (if t174 = 0 then ((bits_Set_Less.f t173 x11).bind fun t175 => (berthinglaw21_RollEnds.j4 k x0 x1 x2 x8 x9 x10 t173 (t175 != 0) x163000 x163001 x163002 x163003)) else (berthinglaw21_RollEnds.j4 k x0 x1 x2 x8 x9 x10 t173 true x163000 x163001 x163002 x163003))))
def berthinglaw21_RollEnds.j4 : Nat → Int → Int → List Int → Int → Int → Int → Int → Bool → Int → Int → Int → Int → Option (Bool)
 | 0, _, _, _, _, _, _, _, _, _, _, _, _ => none
 | k + 1, x0, x1, x2, x8, x9, x10, x12, x73, x163000, x163001, x163002, x163003 => if x73 = true then (none) else ((bits_Set_Or.f x8 x12).bind fun t176 => ((roll_Roll_Hold.f x163000 x163001 x163002 x163003 x12).bind fun bt177 => ((bits_Set_Len.f bt177.2.2.2).bind fun t181 => (if t181 > x0 then (berthinglaw21_RollEnds.j5 k x0 x1 x2 t176 x9 x10 true bt177.1 bt177.2.1 bt177.2.2.1 bt177.2.2.2) else ((roll_Roll_Right.f k bt177.1 bt177.2.1 bt177.2.2.1 bt177.2.2.2 x1).bind fun t182 => (berthinglaw21_RollEnds.j5 k x0 x1 x2 t176 x9 x10 (!t182) bt177.1 bt177.2.1 bt177.2.2.1 bt177.2.2.2))))))
def berthinglaw21_RollEnds.j5 : Nat → Int → Int → List Int → Int → Int → Int → Bool → Int → Int → Int → Int → Option (Bool)
 | 0, _, _, _, _, _, _, _, _, _, _, _ => none
 | k + 1, x0, x1, x2, x8, x9, x10, x90, x163000, x163001, x163002, x163003 => if x90 = true then (none) else (berthinglaw21_RollEnds.l1 k x0 x1 x2 x8 x9 x10 0 x163000 x163001 x163002 x163003)
def berthinglaw21_RollEnds.l1 : Nat → Int → Int → List Int → Int → Int → Int → Int → Int → Int → Int → Int → Option (Bool)
 | 0, _, _, _, _, _, _, _, _, _, _, _ => none
 | k + 1, x0, x1, x2, x8, x9, x10, x13, x163000, x163001, x163002, x163003 => if x13 < 64 then ((roll_Roll_Back.f x163000 x163001 x163002 x163003 x13).bind fun bt183 => (berthinglaw21_RollEnds.l1 k x0 x1 x2 x8 x9 x10 (wrap64 (x13 + 1)) bt183.1 bt183.2.1 bt183.2.2.1 bt183.2.2.2)) else (if x163003 = 0 then ((roll_Roll_Right.f k x163000 x163001 x163002 x163003 x1).bind fun t187 => (if t187 = true then (berthinglaw21_RollEnds.l0 k x0 x1 x2 x8 (wrap64 (x9 + 1)) (wrap64 (x10 + 1)) x163000 x163001 x163002 x163003) else (none))) else (none))
end
def berthinglaw21_RollEnds.f (k : Nat) (a0 : Int) (a1 : Int) (l2 : List Int) : Option (Bool) := berthinglaw21_RollEnds.l0 k (wrap64 (1 + (Go.bits .and .i64 a0 7))) (wrap64 (1 + (Go.bits .and .i64 a1 63))) l2 0 0 0 (wrap64 (1 + (Go.bits .and .i64 a0 7))) 0 0 0
theorem berthinglaw21_RollEnds.mono_l : ∀ k, (∀ y0 y1 y2 y3 y4 y5 y6 y7 y8 y9, LeO (berthinglaw21_RollEnds.l0 k y0 y1 y2 y3 y4 y5 y6 y7 y8 y9) (berthinglaw21_RollEnds.l0 (k + 1) y0 y1 y2 y3 y4 y5 y6 y7 y8 y9)) ∧ (∀ y0 y1 y2 y3 y4 y5 y6 y7 y8 y9 y10, LeO (berthinglaw21_RollEnds.j1 k y0 y1 y2 y3 y4 y5 y6 y7 y8 y9 y10) (berthinglaw21_RollEnds.j1 (k + 1) y0 y1 y2 y3 y4 y5 y6 y7 y8 y9 y10)) ∧ (∀ y0 y1 y2 y3 y4 y5 y6 y7 y8 y9 y10 y11, LeO (berthinglaw21_RollEnds.j2 k y0 y1 y2 y3 y4 y5 y6 y7 y8 y9 y10 y11) (berthinglaw21_RollEnds.j2 (k + 1) y0 y1 y2 y3 y4 y5 y6 y7 y8 y9 y10 y11)) ∧ (∀ y0 y1 y2 y3 y4 y5 y6 y7 y8 y9 y10, LeO (berthinglaw21_RollEnds.j3 k y0 y1 y2 y3 y4 y5 y6 y7 y8 y9 y10) (berthinglaw21_RollEnds.j3 (k + 1) y0 y1 y2 y3 y4 y5 y6 y7 y8 y9 y10)) ∧ (∀ y0 y1 y2 y3 y4 y5 y6 y7 y8 y9 y10 y11, LeO (berthinglaw21_RollEnds.j4 k y0 y1 y2 y3 y4 y5 y6 y7 y8 y9 y10 y11) (berthinglaw21_RollEnds.j4 (k + 1) y0 y1 y2 y3 y4 y5 y6 y7 y8 y9 y10 y11)) ∧ (∀ y0 y1 y2 y3 y4 y5 y6 y7 y8 y9 y10, LeO (berthinglaw21_RollEnds.j5 k y0 y1 y2 y3 y4 y5 y6 y7 y8 y9 y10) (berthinglaw21_RollEnds.j5 (k + 1) y0 y1 y2 y3 y4 y5 y6 y7 y8 y9 y10)) ∧ (∀ y0 y1 y2 y3 y4 y5 y6 y7 y8 y9 y10, LeO (berthinglaw21_RollEnds.l1 k y0 y1 y2 y3 y4 y5 y6 y7 y8 y9 y10) (berthinglaw21_RollEnds.l1 (k + 1) y0 y1 y2 y3 y4 y5 y6 y7 y8 y9 y10))
 | 0 => ⟨fun _ _ _ _ _ _ _ _ _ _ r h => by simp [berthinglaw21_RollEnds.l0] at h, fun _ _ _ _ _ _ _ _ _ _ _ r h => by simp [berthinglaw21_RollEnds.j1] at h, fun _ _ _ _ _ _ _ _ _ _ _ _ r h => by simp [berthinglaw21_RollEnds.j2] at h, fun _ _ _ _ _ _ _ _ _ _ _ r h => by simp [berthinglaw21_RollEnds.j3] at h, fun _ _ _ _ _ _ _ _ _ _ _ _ r h => by simp [berthinglaw21_RollEnds.j4] at h, fun _ _ _ _ _ _ _ _ _ _ _ r h => by simp [berthinglaw21_RollEnds.j5] at h, fun _ _ _ _ _ _ _ _ _ _ _ r h => by simp [berthinglaw21_RollEnds.l1] at h⟩
 | k + 1 => by
  obtain ⟨ih0, ih1, ih2, ih3, ih4, ih5, ih6⟩ := berthinglaw21_RollEnds.mono_l k
  refine ⟨?_, ?_, ?_, ?_, ?_, ?_, ?_⟩
  ·intro y0 y1 y2 y3 y4 y5 y6 y7 y8 y9
   unfold berthinglaw21_RollEnds.l0
   repeat' first
   | (with_reducible exact ih0 _ _ _ _ _ _ _ _ _ _)
   | (with_reducible exact ih1 _ _ _ _ _ _ _ _ _ _ _)
   | (with_reducible exact ih2 _ _ _ _ _ _ _ _ _ _ _ _)
   | (with_reducible exact ih3 _ _ _ _ _ _ _ _ _ _ _)
   | (with_reducible exact ih4 _ _ _ _ _ _ _ _ _ _ _ _)
   | (with_reducible exact ih5 _ _ _ _ _ _ _ _ _ _ _)
   | (with_reducible exact ih6 _ _ _ _ _ _ _ _ _ _ _)
   | (with_reducible exact berthinglaw21_one.mono _)
   | (with_reducible exact roll_Roll_Right.mono _ _ _ _ _ _)
   | (with_reducible exact LeO.refl _)
   | (with_reducible exact LeO.none _)
   | (with_reducible refine LeO.ite ?_ ?_)
   | (with_reducible refine LeO.bind ?_ (fun _ => ?_))
   | exact ih0 _ _ _ _ _ _ _ _ _ _
   | exact ih1 _ _ _ _ _ _ _ _ _ _ _
   | exact ih2 _ _ _ _ _ _ _ _ _ _ _ _
   | exact ih3 _ _ _ _ _ _ _ _ _ _ _
   | exact ih4 _ _ _ _ _ _ _ _ _ _ _ _
   | exact ih5 _ _ _ _ _ _ _ _ _ _ _
   | exact ih6 _ _ _ _ _ _ _ _ _ _ _
   | exact berthinglaw21_one.mono _
   | exact roll_Roll_Right.mono _ _ _ _ _ _
   | exact LeO.none _
   | refine LeO.ite ?_ ?_
   | refine LeO.bind ?_ (fun _ => ?_)
  ·intro y0 y1 y2 y3 y4 y5 y6 y7 y8 y9 y10
   unfold berthinglaw21_RollEnds.j1
   repeat' first
   | (with_reducible exact ih0 _ _ _ _ _ _ _ _ _ _)
   | (with_reducible exact ih1 _ _ _ _ _ _ _ _ _ _ _)
   | (with_reducible exact ih2 _ _ _ _ _ _ _ _ _ _ _ _)
   | (with_reducible exact ih3 _ _ _ _ _ _ _ _ _ _ _)
   | (with_reducible exact ih4 _ _ _ _ _ _ _ _ _ _ _ _)
   | (with_reducible exact ih5 _ _ _ _ _ _ _ _ _ _ _)
   | (with_reducible exact ih6 _ _ _ _ _ _ _ _ _ _ _)
   | (with_reducible exact berthinglaw21_one.mono _)
   | (with_reducible exact roll_Roll_Right.mono _ _ _ _ _ _)
   | (with_reducible exact LeO.refl _)
   | (with_reducible exact LeO.none _)
   | (with_reducible refine LeO.ite ?_ ?_)
   | (with_reducible refine LeO.bind ?_ (fun _ => ?_))
   | exact ih0 _ _ _ _ _ _ _ _ _ _
   | exact ih1 _ _ _ _ _ _ _ _ _ _ _
   | exact ih2 _ _ _ _ _ _ _ _ _ _ _ _
   | exact ih3 _ _ _ _ _ _ _ _ _ _ _
   | exact ih4 _ _ _ _ _ _ _ _ _ _ _ _
   | exact ih5 _ _ _ _ _ _ _ _ _ _ _
   | exact ih6 _ _ _ _ _ _ _ _ _ _ _
   | exact berthinglaw21_one.mono _
   | exact roll_Roll_Right.mono _ _ _ _ _ _
   | exact LeO.none _
   | refine LeO.ite ?_ ?_
   | refine LeO.bind ?_ (fun _ => ?_)
  ·intro y0 y1 y2 y3 y4 y5 y6 y7 y8 y9 y10 y11
   unfold berthinglaw21_RollEnds.j2
   repeat' first
   | (with_reducible exact ih0 _ _ _ _ _ _ _ _ _ _)
   | (with_reducible exact ih1 _ _ _ _ _ _ _ _ _ _ _)
   | (with_reducible exact ih2 _ _ _ _ _ _ _ _ _ _ _ _)
   | (with_reducible exact ih3 _ _ _ _ _ _ _ _ _ _ _)
   | (with_reducible exact ih4 _ _ _ _ _ _ _ _ _ _ _ _)
   | (with_reducible exact ih5 _ _ _ _ _ _ _ _ _ _ _)
   | (with_reducible exact ih6 _ _ _ _ _ _ _ _ _ _ _)
   | (with_reducible exact berthinglaw21_one.mono _)
   | (with_reducible exact roll_Roll_Right.mono _ _ _ _ _ _)
   | (with_reducible exact LeO.refl _)
   | (with_reducible exact LeO.none _)
   | (with_reducible refine LeO.ite ?_ ?_)
   | (with_reducible refine LeO.bind ?_ (fun _ => ?_))
   | exact ih0 _ _ _ _ _ _ _ _ _ _
   | exact ih1 _ _ _ _ _ _ _ _ _ _ _
   | exact ih2 _ _ _ _ _ _ _ _ _ _ _ _
   | exact ih3 _ _ _ _ _ _ _ _ _ _ _
   | exact ih4 _ _ _ _ _ _ _ _ _ _ _ _
   | exact ih5 _ _ _ _ _ _ _ _ _ _ _
   | exact ih6 _ _ _ _ _ _ _ _ _ _ _
   | exact berthinglaw21_one.mono _
   | exact roll_Roll_Right.mono _ _ _ _ _ _
   | exact LeO.none _
   | refine LeO.ite ?_ ?_
   | refine LeO.bind ?_ (fun _ => ?_)
  ·intro y0 y1 y2 y3 y4 y5 y6 y7 y8 y9 y10
   unfold berthinglaw21_RollEnds.j3
   repeat' first
   | (with_reducible exact ih0 _ _ _ _ _ _ _ _ _ _)
   | (with_reducible exact ih1 _ _ _ _ _ _ _ _ _ _ _)
   | (with_reducible exact ih2 _ _ _ _ _ _ _ _ _ _ _ _)
   | (with_reducible exact ih3 _ _ _ _ _ _ _ _ _ _ _)
   | (with_reducible exact ih4 _ _ _ _ _ _ _ _ _ _ _ _)
   | (with_reducible exact ih5 _ _ _ _ _ _ _ _ _ _ _)
   | (with_reducible exact ih6 _ _ _ _ _ _ _ _ _ _ _)
   | (with_reducible exact berthinglaw21_one.mono _)
   | (with_reducible exact roll_Roll_Right.mono _ _ _ _ _ _)
   | (with_reducible exact LeO.refl _)
   | (with_reducible exact LeO.none _)
   | (with_reducible refine LeO.ite ?_ ?_)
   | (with_reducible refine LeO.bind ?_ (fun _ => ?_))
   | exact ih0 _ _ _ _ _ _ _ _ _ _
   | exact ih1 _ _ _ _ _ _ _ _ _ _ _
   | exact ih2 _ _ _ _ _ _ _ _ _ _ _ _
   | exact ih3 _ _ _ _ _ _ _ _ _ _ _
   | exact ih4 _ _ _ _ _ _ _ _ _ _ _ _
   | exact ih5 _ _ _ _ _ _ _ _ _ _ _
   | exact ih6 _ _ _ _ _ _ _ _ _ _ _
   | exact berthinglaw21_one.mono _
   | exact roll_Roll_Right.mono _ _ _ _ _ _
   | exact LeO.none _
   | refine LeO.ite ?_ ?_
   | refine LeO.bind ?_ (fun _ => ?_)
  ·intro y0 y1 y2 y3 y4 y5 y6 y7 y8 y9 y10 y11
   unfold berthinglaw21_RollEnds.j4
   repeat' first
   | (with_reducible exact ih0 _ _ _ _ _ _ _ _ _ _)
   | (with_reducible exact ih1 _ _ _ _ _ _ _ _ _ _ _)
   | (with_reducible exact ih2 _ _ _ _ _ _ _ _ _ _ _ _)
   | (with_reducible exact ih3 _ _ _ _ _ _ _ _ _ _ _)
   | (with_reducible exact ih4 _ _ _ _ _ _ _ _ _ _ _ _)
   | (with_reducible exact ih5 _ _ _ _ _ _ _ _ _ _ _)
   | (with_reducible exact ih6 _ _ _ _ _ _ _ _ _ _ _)
   | (with_reducible exact berthinglaw21_one.mono _)
   | (with_reducible exact roll_Roll_Right.mono _ _ _ _ _ _)
   | (with_reducible exact LeO.refl _)
   | (with_reducible exact LeO.none _)
   | (with_reducible refine LeO.ite ?_ ?_)
   | (with_reducible refine LeO.bind ?_ (fun _ => ?_))
   | exact ih0 _ _ _ _ _ _ _ _ _ _
   | exact ih1 _ _ _ _ _ _ _ _ _ _ _
   | exact ih2 _ _ _ _ _ _ _ _ _ _ _ _
   | exact ih3 _ _ _ _ _ _ _ _ _ _ _
   | exact ih4 _ _ _ _ _ _ _ _ _ _ _ _
   | exact ih5 _ _ _ _ _ _ _ _ _ _ _
   | exact ih6 _ _ _ _ _ _ _ _ _ _ _
   | exact berthinglaw21_one.mono _
   | exact roll_Roll_Right.mono _ _ _ _ _ _
   | exact LeO.none _
   | refine LeO.ite ?_ ?_
   | refine LeO.bind ?_ (fun _ => ?_)
  ·intro y0 y1 y2 y3 y4 y5 y6 y7 y8 y9 y10
   unfold berthinglaw21_RollEnds.j5
   repeat' first
   | (with_reducible exact ih0 _ _ _ _ _ _ _ _ _ _)
   | (with_reducible exact ih1 _ _ _ _ _ _ _ _ _ _ _)
   | (with_reducible exact ih2 _ _ _ _ _ _ _ _ _ _ _ _)
   | (with_reducible exact ih3 _ _ _ _ _ _ _ _ _ _ _)
   | (with_reducible exact ih4 _ _ _ _ _ _ _ _ _ _ _ _)
   | (with_reducible exact ih5 _ _ _ _ _ _ _ _ _ _ _)
   | (with_reducible exact ih6 _ _ _ _ _ _ _ _ _ _ _)
   | (with_reducible exact berthinglaw21_one.mono _)
   | (with_reducible exact roll_Roll_Right.mono _ _ _ _ _ _)
   | (with_reducible exact LeO.refl _)
   | (with_reducible exact LeO.none _)
   | (with_reducible refine LeO.ite ?_ ?_)
   | (with_reducible refine LeO.bind ?_ (fun _ => ?_))
   | exact ih0 _ _ _ _ _ _ _ _ _ _
   | exact ih1 _ _ _ _ _ _ _ _ _ _ _
   | exact ih2 _ _ _ _ _ _ _ _ _ _ _ _
   | exact ih3 _ _ _ _ _ _ _ _ _ _ _
   | exact ih4 _ _ _ _ _ _ _ _ _ _ _ _
   | exact ih5 _ _ _ _ _ _ _ _ _ _ _
   | exact ih6 _ _ _ _ _ _ _ _ _ _ _
   | exact berthinglaw21_one.mono _
   | exact roll_Roll_Right.mono _ _ _ _ _ _
   | exact LeO.none _
   | refine LeO.ite ?_ ?_
   | refine LeO.bind ?_ (fun _ => ?_)
  ·intro y0 y1 y2 y3 y4 y5 y6 y7 y8 y9 y10
   unfold berthinglaw21_RollEnds.l1
   repeat' first
   | (with_reducible exact ih0 _ _ _ _ _ _ _ _ _ _)
   | (with_reducible exact ih1 _ _ _ _ _ _ _ _ _ _ _)
   | (with_reducible exact ih2 _ _ _ _ _ _ _ _ _ _ _ _)
   | (with_reducible exact ih3 _ _ _ _ _ _ _ _ _ _ _)
   | (with_reducible exact ih4 _ _ _ _ _ _ _ _ _ _ _ _)
   | (with_reducible exact ih5 _ _ _ _ _ _ _ _ _ _ _)
   | (with_reducible exact ih6 _ _ _ _ _ _ _ _ _ _ _)
   | (with_reducible exact berthinglaw21_one.mono _)
   | (with_reducible exact roll_Roll_Right.mono _ _ _ _ _ _)
   | (with_reducible exact LeO.refl _)
   | (with_reducible exact LeO.none _)
   | (with_reducible refine LeO.ite ?_ ?_)
   | (with_reducible refine LeO.bind ?_ (fun _ => ?_))
   | exact ih0 _ _ _ _ _ _ _ _ _ _
   | exact ih1 _ _ _ _ _ _ _ _ _ _ _
   | exact ih2 _ _ _ _ _ _ _ _ _ _ _ _
   | exact ih3 _ _ _ _ _ _ _ _ _ _ _
   | exact ih4 _ _ _ _ _ _ _ _ _ _ _ _
   | exact ih5 _ _ _ _ _ _ _ _ _ _ _
   | exact ih6 _ _ _ _ _ _ _ _ _ _ _
   | exact berthinglaw21_one.mono _
   | exact roll_Roll_Right.mono _ _ _ _ _ _
   | exact LeO.none _
   | refine LeO.ite ?_ ?_
   | refine LeO.bind ?_ (fun _ => ?_)
theorem berthinglaw21_RollEnds.mono : ∀ a0 a1 a2 k, LeO (berthinglaw21_RollEnds.f k a0 a1 a2) (berthinglaw21_RollEnds.f (k + 1) a0 a1 a2) := by
 intro a0 a1 a2 k
 obtain ⟨ih0, ih1, ih2, ih3, ih4, ih5, ih6⟩ := berthinglaw21_RollEnds.mono_l k
 unfold berthinglaw21_RollEnds.f
 repeat' first
   | (with_reducible exact ih0 _ _ _ _ _ _ _ _ _ _)
   | (with_reducible exact ih1 _ _ _ _ _ _ _ _ _ _ _)
   | (with_reducible exact ih2 _ _ _ _ _ _ _ _ _ _ _ _)
   | (with_reducible exact ih3 _ _ _ _ _ _ _ _ _ _ _)
   | (with_reducible exact ih4 _ _ _ _ _ _ _ _ _ _ _ _)
   | (with_reducible exact ih5 _ _ _ _ _ _ _ _ _ _ _)
   | (with_reducible exact ih6 _ _ _ _ _ _ _ _ _ _ _)
   | (with_reducible exact berthinglaw21_one.mono _)
   | (with_reducible exact roll_Roll_Right.mono _ _ _ _ _ _)
   | (with_reducible exact LeO.refl _)
   | (with_reducible exact LeO.none _)
   | (with_reducible refine LeO.ite ?_ ?_)
   | (with_reducible refine LeO.bind ?_ (fun _ => ?_))
   | exact ih0 _ _ _ _ _ _ _ _ _ _
   | exact ih1 _ _ _ _ _ _ _ _ _ _ _
   | exact ih2 _ _ _ _ _ _ _ _ _ _ _ _
   | exact ih3 _ _ _ _ _ _ _ _ _ _ _
   | exact ih4 _ _ _ _ _ _ _ _ _ _ _ _
   | exact ih5 _ _ _ _ _ _ _ _ _ _ _
   | exact ih6 _ _ _ _ _ _ _ _ _ _ _
   | exact berthinglaw21_one.mono _
   | exact roll_Roll_Right.mono _ _ _ _ _ _
   | exact LeO.none _
   | refine LeO.ite ?_ ?_
   | refine LeO.bind ?_ (fun _ => ?_)
def berthinglaw21_RollEnds.T9 : Bool × List (List Nat × List Nat) := (true, [([], []), ([], []), ([1], [1]), ([0, 2], [0, 2]), ([3], [3]), ([4], [4]), ([4], [4]), ([5, 6, 4], [4, 5, 6]), ([7, 4], [4, 7]), ([4], [4]), ([8, 9, 4, 4], [4, 8, 9]), ([4], [4]), ([11, 4], [4, 11]), ([10, 12, 10, 4], [4, 10, 12]), ([13, 4], [4, 13]), ([4, 14], [4, 14])])
def berthinglaw21_RollEnds.B9 : List Nat := [0, 0, 2, 7, 15, 31, 31, 127, 255, 31, 1023, 31, 2079, 8191, 16383, 32767]
theorem berthinglaw21_RollEnds.tab9 : rtab .any (opsOf Tryd.f3 9) = berthinglaw21_RollEnds.T9 := by kernel_rfl
theorem berthinglaw21_RollEnds.bits9 : waitsOk berthinglaw21_RollEnds.T9.2 berthinglaw21_RollEnds.B9 = true := by kernel_rfl
def berthinglaw21_RollEnds.T25 : Bool × List (List Nat × List Nat) := (true, [([], []), ([], []), ([0, 1], [0, 1]), ([2, 2], [2]), ([3], [3]), ([3], [3]), ([4, 5, 3], [3, 4, 5]), ([3, 6], [3, 6]), ([7, 3], [7]), ([8], [8]), ([9, 8], [8, 9]), ([8], [8]), ([11, 8, 8], [8, 11]), ([10, 12, 8], [8, 10, 12]), ([8, 13], [8, 13]), ([14, 12], [14]), ([15, 15], [15]), ([15, 16], [15, 16]), ([17, 16, 0, 1, 2, 3, 4, 5, 6, 7, 8, 9, 10, 11, 12, 13, 14, 15, 16, 17], [17])])
def berthinglaw21_RollEnds.B25 : List Nat := [0, 0, 3, 7, 15, 15, 63, 127, 255, 511, 1023, 511, 2559, 8191, 16383, 32767, 65535, 131071, 262143]
theorem berthinglaw21_RollEnds.tab25 : rtab .any (opsOf Tryd.f3 25) = berthinglaw21_RollEnds.T25 := by kernel_rfl
theorem berthinglaw21_RollEnds.bits25 : waitsOk berthinglaw21_RollEnds.T25.2 berthinglaw21_RollEnds.B25 = true := by kernel_rfl
set_option maxHeartbeats 8000000 in
set_option maxRecDepth 100000 in
theorem berthinglaw21_RollEnds.calls (k : Nat) (a0 : Int) (a1 : Int) (A2 : Option Addr) (c2 : Nat) (l2 : List Int) (r : Bool) (w : World) (hT : RollNext.Tab w) (hr2 : Kd.C (Kd.int .u64) w A2 l2.length l2) (hc2 : l2.length ≤ c2) (h : berthinglaw21_RollEnds.f k a0 a1 l2 = some r) :
  Calls Tryd.prog 3 #[.int .i64 a0, .int .i64 a1, .slice A2 l2.length c2] w fun e w' => e = .returned (.bool r) ∧ Below w.heap.size w w' := by
 have hu27 := Tryd.underlying27
 have HR2 := Aside0.mk hr2
 have HC2 := Aside0.mk hc2
 clear hr2 hc2
 have HB := Aside0.mk (Below.refl w.heap.size w)
 have H : (berthinglaw21_RollEnds.l0 k (wrap64 (1 + (Go.bits .and .i64 a0 7))) (wrap64 (1 + (Go.bits .and .i64 a1 63))) l2 0 0 0 (wrap64 (1 + (Go.bits .and .i64 a0 7))) 0 0 0) = some r := h
 clear h
 have H' := Aside0.mk H
 clear H
 go_enter Tryd.func3, Tryd.ntmps3
 go_wp2_with (first | ((with_reducible refine gate_dst (N := 7) rfl ?_); refine box_event ?hg (N := 7) ?hd (cs := #[.int .i64 0, .int .i64 0, .int .u64 0, .int .u64 0]) (t := 27) ?hr ?_; (case hd => rfl); (case hg => rfl); (case hr => first | (go_simp; done) | (go_simp; rfl)); intro gb162 hg w4 hbox hb; have n0_ := Aside0.mk (below_step (by repeat (first | (with_reducible first | exact HB.out | apply below_alloc | apply pw_below_drewN | apply below_drew1) | exact HB.out)) hb); have n1_ := Aside0.mk (hbox); have n2_ := Aside0.mk ((by rw [hg]; exact (below_size (by repeat (first | (with_reducible first | exact HB.out | apply below_alloc | apply pw_below_drewN | apply below_drew1) | exact HB.out))) : w.heap.size ≤ gb162)); have n3_ := Aside0.mk ((by rw [hg]; exact (below_size (by repeat (first | (with_reducible first | exact HB.out | apply below_alloc | apply pw_below_drewN | apply below_drew1) | exact HB.out))) : w.heap.size ≤ gb162)); clear HB; have HB := n0_; have BK162 := n1_; have GW162 := n2_; have GE162 := n3_; clear n0_ n1_ n2_ n3_; clear hb hbox hg; have hcz5_0 : w4.cell? ⟨gb162, 0, none⟩ = some (.int .i64 0) := (blk_cell BK162.out 0).trans rfl; have hcz5_1 : w4.cell? ⟨gb162, 1, none⟩ = some (.int .i64 0) := (blk_cell BK162.out 1).trans rfl; have hcz5_2 : w4.cell? ⟨gb162, 2, none⟩ = some (.int .u64 0) := (blk_cell BK162.out 2).trans rfl; have hcz5_3 : w4.cell? ⟨gb162, 3, none⟩ = some (.int .u64 0) := (blk_cell BK162.out 3).trans rfl; have hfz5_0 := blk_frozen BK162.out 0; have hfz5_1 := blk_frozen BK162.out 1; have hfz5_2 := blk_frozen BK162.out 2; have hfz5_3 := blk_frozen BK162.out 3))
 go_loopg [8, 9, 10] k (fun kq v8 v9 v10 w' => ∃ (x8_1 : Int) (x9_1 : Int) (x10_1 : Int) (x163000_1 : Int) (x163001_1 : Int) (x163002_1 : Int) (x163003_1 : Int), v8 = .int .u64 x8_1 ∧ v9 = .int .i64 x9_1 ∧ v10 = .int .i64 x10_1 ∧ Aside0 (berthinglaw21_RollEnds.l0 kq (wrap64 (1 + (Go.bits .and .i64 a0 7))) (wrap64 (1 + (Go.bits .and .i64 a1 63))) l2 x8_1 x9_1 x10_1 x163000_1 x163001_1 x163002_1 x163003_1 = some r) ∧ Aside0 (kq ≤ k) ∧ Aside0 (w'.heap[gb162]? = some (.cells #[.int .i64 x163000_1, .int .i64 x163001_1, .int .u64 x163002_1, .int .u64 x163003_1] 27 (0, 0))) ∧ Aside0 (Below w.heap.size w w'))
 case atStart => exact ⟨(0), (0), (0), (wrap64 (1 + (Go.bits .and .i64 a0 7))), (0), (0), (0), (by first | rfl | (simp; done) | (simp [*]; done)), (by first | rfl | (simp; done) | (simp [*]; done)), (by first | rfl | (simp; done) | (simp [*]; done)), H', ⟨Nat.le_refl _⟩, ⟨by (with_reducible repeat (first | refine blk_drewN ?_ _ | refine blk_drew ?_ | refine blk_alloc ?_ _)); refine blk_put (cs := #[.int .i64 (wrap64 (1 + (Go.bits .and .i64 a0 7))), .int .i64 0, .int .u64 0, .int .u64 0]) ?_ 3 _ rfl; (with_reducible repeat (first | refine blk_drewN ?_ _ | refine blk_drew ?_ | refine blk_alloc ?_ _)); refine blk_put (cs := #[.int .i64 (wrap64 (1 + (Go.bits .and .i64 a0 7))), .int .i64 0, .int .u64 0, .int .u64 0]) ?_ 2 _ rfl; (with_reducible repeat (first | refine blk_drewN ?_ _ | refine blk_drew ?_ | refine blk_alloc ?_ _)); refine blk_put (cs := #[.int .i64 (wrap64 (1 + (Go.bits .and .i64 a0 7))), .int .i64 0, .int .u64 0, .int .u64 0]) ?_ 1 _ rfl; (with_reducible repeat (first | refine blk_drewN ?_ _ | refine blk_drew ?_ | refine blk_alloc ?_ _)); refine blk_put (cs := #[.int .i64 0, .int .i64 0, .int .u64 0, .int .u64 0]) ?_ 0 _ rfl; (with_reducible repeat (first | refine blk_drewN ?_ _ | refine blk_drew ?_ | refine blk_alloc ?_ _)); exact BK162.out⟩, ⟨by repeat (first | (with_reducible first | exact HB.out | apply below_alloc | apply pw_below_drewN | apply below_drew1 | refine below_set ?_ GE162.out) | exact HB.out)⟩⟩
 case round =>
  clear H'
  try clear c2
  try clear p2
  try clear c3
  try clear hcz5_0
  try clear hcz5_1
  try clear hcz5_2
  try clear hcz5_3
  try clear hfz5_0
  try clear hfz5_1
  try clear hfz5_2
  try clear hfz5_3
  obtain ⟨x8_1, x9_1, x10_1, x163000_1, x163001_1, x163002_1, x163003_1, rfl, rfl, rfl, HA, HK1, BK162, HB⟩ := hrel
  cases gk with
  | zero => exact absurd HA.out (by simp [berthinglaw21_RollEnds.l0])
  | succ k1 =>
   have H := HA.out
   clear HA
   simp only [berthinglaw21_RollEnds.l0] at H
   have HC6 := Aside0.mk H
   clear H
   go_upto_region 6 with (fail)
   go_cut [29] (fun v29 wc => ∃ (kq : Nat) (x29_5 : Bool), v29 = .bool x29_5 ∧ Aside0 (berthinglaw21_RollEnds.j1 kq (wrap64 (1 + (Go.bits .and .i64 a0 7))) (wrap64 (1 + (Go.bits .and .i64 a1 63))) l2 x8_1 x9_1 x10_1 x29_5 x163000_1 x163001_1 x163002_1 x163003_1 = some r) ∧ Aside0 (kq ≤ k1) ∧ Aside0 (wc.heap[gb162]? = some (.cells #[.int .i64 x163000_1, .int .i64 x163001_1, .int .u64 x163002_1, .int .u64 x163003_1] 27 (0, 0))) ∧ Aside0 (Below w.heap.size w wc))
   case first =>
    have H := HC6.out
    clear HC6
    by_cases c7 : x10_1 < 300
    ·rw [if_pos c7] at H
     have c7b0 : decide (x10_1 < 300) = true := decide_eq_true c7
     clear c7
     (first | rw [c7b0] | (simp only [i64_w, i32_w]; rw [c7b0]) | skip)
     replace H := Option.bind_eq_some_iff.mp H
     obtain ⟨t163, A80, H⟩ := H
     replace H : (berthinglaw21_RollEnds.j1 k1 (wrap64 (1 + (Go.bits .and .i64 a0 7))) (wrap64 (1 + (Go.bits .and .i64 a1 63))) l2 x8_1 x9_1 x10_1 (!t163) x163000_1 x163001_1 x163002_1 x163003_1) = some r := H
     have A8 := Aside0.mk A80
     clear A80
     have H' := Aside0.mk H
     clear H
     have hcz9_0 : wr.cell? ⟨gb162, 0, none⟩ = some (.int .i64 x163000_1) := (blk_cell BK162.out 0).trans rfl
     have hcz9_1 : wr.cell? ⟨gb162, 1, none⟩ = some (.int .i64 x163001_1) := (blk_cell BK162.out 1).trans rfl
     have hcz9_2 : wr.cell? ⟨gb162, 2, none⟩ = some (.int .u64 x163002_1) := (blk_cell BK162.out 2).trans rfl
     have hcz9_3 : wr.cell? ⟨gb162, 3, none⟩ = some (.int .u64 x163003_1) := (blk_cell BK162.out 3).trans rfl
     have hfz9_0 := blk_frozen BK162.out 0
     have hfz9_1 := blk_frozen BK162.out 1
     have hfz9_2 := blk_frozen BK162.out 2
     have hfz9_3 := blk_frozen BK162.out 3
     go_wp2_with (first | (go_at_call 5; (with_reducible refine (roll_Roll_Over.calls x163000_1 x163001_1 x163002_1 x163003_1 (wrap64 (1 + (Go.bits .and .i64 a1 63))) t163 _ A8.out).mono ?_); rintro e w10 ⟨rfl, hb⟩; have n0_ := Aside0.mk (blk_below (g := gb162) (o := .cells #[.int .i64 x163000_1, .int .i64 x163001_1, .int .u64 x163002_1, .int .u64 x163003_1] 27 (0, 0)) (by (with_reducible repeat (first | refine blk_drewN ?_ _ | refine blk_drew ?_ | refine blk_alloc ?_ _)); exact BK162.out) hb); have n1_ := Aside0.mk (below_step (by repeat (first | (with_reducible first | exact HB.out | apply below_alloc | apply pw_below_drewN | apply below_drew1 | refine below_set ?_ GE162.out) | exact HB.out)) hb); clear BK162; clear HB; have BK162 := n0_; have HB := n1_; clear n0_ n1_; (try clear hb); (try clear hb2); (try clear hk); (try clear hi)))
     go_meet
     case rel => exact ⟨_, (!t163), (by first | rfl | (simp; done) | (simp [*]; done)), H', ⟨by have := HK1.out; first | omega | exact Nat.le_refl _⟩, ⟨by (with_reducible repeat (first | refine blk_drewN ?_ _ | refine blk_drew ?_ | refine blk_alloc ?_ _)); exact BK162.out⟩, ⟨by repeat (first | (with_reducible first | exact HB.out | apply below_alloc | apply pw_below_drewN | apply below_drew1 | refine below_set ?_ GE162.out) | exact HB.out)⟩⟩
    ·rw [if_neg c7] at H
     have c7b0 : decide (x10_1 < 300) = false := decide_eq_false c7
     clear c7
     (first | rw [c7b0] | (simp only [i64_w, i32_w]; rw [c7b0]) | skip)
     have H' := Aside0.mk H
     clear H
     go_wp2
     go_meet
     case rel => exact ⟨_, (false), (by first | rfl | (simp; done) | (simp [*]; done)), H', ⟨by have := HK1.out; first | omega | exact Nat.le_refl _⟩, ⟨by (with_reducible repeat (first | refine blk_drewN ?_ _ | refine blk_drew ?_ | refine blk_alloc ?_ _)); exact BK162.out⟩, ⟨by repeat (first | (with_reducible first | exact HB.out | apply below_alloc | apply pw_below_drewN | apply below_drew1 | refine below_set ?_ GE162.out) | exact HB.out)⟩⟩
   case rest =>
    clear HC6
    try clear c2
    try clear p2
    try clear c3
    try clear p6
    try clear c7
    try clear c7b0
    try clear hcz5_0
    try clear hcz5_1
    try clear hcz5_2
    try clear hcz5_3
    try clear hcz9_0
    try clear hcz9_1
    try clear hcz9_2
    try clear hcz9_3
    try clear hfz5_0
    try clear hfz5_1
    try clear hfz5_2
    try clear hfz5_3
    try clear hfz9_0
    try clear hfz9_1
    try clear hfz9_2
    try clear hfz9_3
    try clear p2
    obtain ⟨kq, x29_5, rfl, HA, HJ5, BK162, HB⟩ := hcut
    cases kq with
    | zero => exact absurd HA.out (by simp [berthinglaw21_RollEnds.j1])
    | succ kj5 =>
     have H := HA.out
     clear HA
     simp only [berthinglaw21_RollEnds.j1] at H
     by_cases c11 : x29_5 = true
     ·subst c11
      have H1 : ((bits_First.f (wrap64 (1 + (Go.bits .and .i64 a1 63)))).bind fun t167 => (if x10_1 < (l2.length : Int) then (if 0 ≤ x10_1 then ((bits_Set_And.f (rd l2 x10_1) t167).bind fun t169 => ((bits_Set_Less.f t169 x163002_1).bind fun t170 => (berthinglaw21_RollEnds.j2 kj5 (wrap64 (1 + (Go.bits .and .i64 a0 7))) (wrap64 (1 + (Go.bits .and .i64 a1 63))) l2 x8_1 x9_1 x10_1 t167 (t170 != 0) x163000_1 x163001_1 x163002_1 x163003_1))) else (none)) else (berthinglaw21_RollEnds.j2 kj5 (wrap64 (1 + (Go.bits .and .i64 a0 7))) (wrap64 (1 + (Go.bits .and .i64 a1 63))) l2 x8_1 x9_1 x10_1 t167 false x163000_1 x163001_1 x163002_1 x163003_1))) = some r := by rw [if_pos rfl] at H; exact H
      clear H
      have H := H1
      clear H1
      replace H := Option.bind_eq_some_iff.mp H
      obtain ⟨t167, A120, H⟩ := H
      replace H : (if x10_1 < (l2.length : Int) then (if 0 ≤ x10_1 then ((bits_Set_And.f (rd l2 x10_1) t167).bind fun t169 => ((bits_Set_Less.f t169 x163002_1).bind fun t170 => (berthinglaw21_RollEnds.j2 kj5 (wrap64 (1 + (Go.bits .and .i64 a0 7))) (wrap64 (1 + (Go.bits .and .i64 a1 63))) l2 x8_1 x9_1 x10_1 t167 (t170 != 0) x163000_1 x163001_1 x163002_1 x163003_1))) else (none)) else (berthinglaw21_RollEnds.j2 kj5 (wrap64 (1 + (Go.bits .and .i64 a0 7))) (wrap64 (1 + (Go.bits .and .i64 a1 63))) l2 x8_1 x9_1 x10_1 t167 false x163000_1 x163001_1 x163002_1 x163003_1)) = some r := H
      have A12 := Aside0.mk A120
      clear A120
      have HC13 := Aside0.mk H
      clear H
      go_upto_region 9 with (first | ((with_reducible refine gate_callee (f := 6) rfl ?_); refine goesL_ (some 33) rfl rfl Tryd.func6 (by kernel_rfl) rfl #[.int .i64 (wrap64 (1 + (Go.bits .and .i64 a1 63)))] rfl (by (try simp only [List.map_toArray, List.map_cons, List.map_nil]); first | done | rfl | (simp only [List.length_drop, List.length_take]; rfl)) ?_; (with_reducible refine (bits_First.calls (wrap64 (1 + (Go.bits .and .i64 a1 63))) t167 _ A12.out).mono ?_); rintro e w' ⟨rfl, ⟨nd, rfl⟩⟩; refine ⟨_, rfl, ?_⟩))
      generalize hq_ : World.drewN wc _ = wc; have n0_ : Aside0 (wc.heap[gb162]? = some (.cells #[.int .i64 x163000_1, .int .i64 x163001_1, .int .u64 x163002_1, .int .u64 x163003_1] 27 (0, 0))) := ⟨by rw [← hq_]; exact blk_drewN BK162.out _⟩; have n9_ : Aside0 (Below w.heap.size w wc) := ⟨by rw [← hq_]; exact pw_below_drewN HB.out _⟩; clear BK162 HB hq_; have BK162 := n0_; have HB := n9_; clear n0_ n9_
      (try simp only [Act.put, List.setIfInBounds_toArray, List.set_cons_zero, List.set_cons_succ])
      go_cut [49] (fun v49 wc => ∃ (kq : Nat) (x49_12 : Bool), v49 = .bool x49_12 ∧ Aside0 (berthinglaw21_RollEnds.j2 kq (wrap64 (1 + (Go.bits .and .i64 a0 7))) (wrap64 (1 + (Go.bits .and .i64 a1 63))) l2 x8_1 x9_1 x10_1 t167 x49_12 x163000_1 x163001_1 x163002_1 x163003_1 = some r) ∧ Aside0 (kq ≤ kj5) ∧ Aside0 (wc.heap[gb162]? = some (.cells #[.int .i64 x163000_1, .int .i64 x163001_1, .int .u64 x163002_1, .int .u64 x163003_1] 27 (0, 0))) ∧ Aside0 (Below w.heap.size w wc))
      case first =>
       have H := HC13.out
       clear HC13
       by_cases c14 : x10_1 < (l2.length : Int)
       ·rw [if_pos c14] at H
        have c14b0 : decide (x10_1 < (l2.length : Int)) = true := decide_eq_true c14
        clear c14
        (first | rw [c14b0] | (simp only [i64_w, i32_w]; rw [c14b0]) | skip)
        by_cases c15 : 0 ≤ x10_1
        ·rw [if_pos c15] at H
         have c15b0 : decide (0 ≤ x10_1) = true := decide_eq_true c15
         clear c15
         replace H := Option.bind_eq_some_iff.mp H
         obtain ⟨t169, A160, H⟩ := H
         replace H : ((bits_Set_Less.f t169 x163002_1).bind fun t170 => (berthinglaw21_RollEnds.j2 kj5 (wrap64 (1 + (Go.bits .and .i64 a0 7))) (wrap64 (1 + (Go.bits .and .i64 a1 63))) l2 x8_1 x9_1 x10_1 t167 (t170 != 0) x163000_1 x163001_1 x163002_1 x163003_1)) = some r := H
         have A16 := Aside0.mk A160
         clear A160
         replace H := Option.bind_eq_some_iff.mp H
         obtain ⟨t170, A170, H⟩ := H
         replace H : (berthinglaw21_RollEnds.j2 kj5 (wrap64 (1 + (Go.bits .and .i64 a0 7))) (wrap64 (1 + (Go.bits .and .i64 a1 63))) l2 x8_1 x9_1 x10_1 t167 (t170 != 0) x163000_1 x163001_1 x163002_1 x163003_1) = some r := H
         have A17 := Aside0.mk A170
         clear A170
         have H' := Aside0.mk H
         clear H
         try go_wp2
         have n0_ := Aside0.mk (blk_drew BK162.out)
         have n1_ := Aside0.mk (below_drew1 HB.out)
         clear BK162
         clear HB
         have BK162 := n0_
         have HB := n1_
         clear n0_ n1_
         have p168 : 0 ≤ (x10_1 : Int) := of_decide_eq_true (by first | (with_reducible assumption) | assumption)
         have q168 : x10_1 < (l2.length : Int) := of_decide_eq_true (by first | (with_reducible assumption) | assumption)
         obtain ⟨ad168, e168, hx168_0⟩ := Kd.at_int HR2.out x10_1 p168 q168
         have hw168_0 := hx168_0
         cases e168
         replace hx168_0 := (HB.out.cell (World.block_lt_of_cell? w _ hx168_0)).trans hx168_0
         replace p168 := eq_true p168
         replace q168 := eq_true q168
         refine start_ (n := 16) (S := fun w' => w'.cell? ⟨gb162, 0, none⟩ = some (.int .i64 x163000_1) ∧ w'.cell? ⟨gb162, 1, none⟩ = some (.int .i64 x163001_1) ∧ w'.cell? ⟨gb162, 2, none⟩ = some (.int .u64 x163002_1) ∧ w'.cell? ⟨gb162, 3, none⟩ = some (.int .u64 x163003_1) ∧ w'.cell? (ad168.add (x10_1).toNat) = some (.int .u64 (rd l2 x10_1))) (ds := []) #[false, false, false, false, false, false, false, false, false, false, false, false, false, false, false, false] (by kernel_rfl) rfl rfl ⟨(blk_cell BK162.out 0).trans rfl, (blk_cell BK162.out 1).trans rfl, (blk_cell BK162.out 2).trans rfl, (blk_cell BK162.out 3).trans rfl, ((HB.out.cell (World.block_lt_of_cell? w _ hw168_0)).trans hw168_0)⟩ (fun hHeld => ?_); refine with_tabW berthinglaw21_RollEnds.tab9 berthinglaw21_RollEnds.bits9 (fun HT_ HW_ => ?_)
         generalize wc.drew = w18 at BK162 HB hx168_0 hHeld ⊢
         refine pure_ (i := 0) (N := some 34) (v := ?_) (a' := ?_) #[true, false, false, false, false, false, false, false, false, false, false, false, false, false, false, false] rfl rfl (any_of HT_.out (by kernel_rfl)) (fun _ _ _ h => h) (Or.inl ⟨by rfl, ?_⟩) ?_ ?_
         rotate_left
         ·intro w'
          go_simp
          with_reducible rfl
         rotate_left
         ·simp only [Act.put, List.setIfInBounds_toArray, List.set_cons_zero, List.set_cons_succ, i64_w, i32_w]
          rfl
         refine pure_ (i := 1) (N := some 35) (v := ?_) (a' := ?_) #[true, true, false, false, false, false, false, false, false, false, false, false, false, false, false, false] rfl rfl (any_of HT_.out (by kernel_rfl)) (fun _ _ _ h => h) (Or.inl ⟨by rfl, ?_⟩) ?_ ?_
         rotate_left
         ·intro w'
          go_simp
          with_reducible rfl
         rotate_left
         ·simp only [Act.put, List.setIfInBounds_toArray, List.set_cons_zero, List.set_cons_succ, i64_w, i32_w]
          rfl
         refine pure_ (i := 2) (N := some 36) (v := ?_) (a' := ?_) #[true, true, true, false, false, false, false, false, false, false, false, false, false, false, false, false] rfl rfl (any_of HT_.out (by kernel_rfl)) (fun _ _ _ h => h) (Or.inl ⟨by rfl, ?_⟩) ?_ ?_
         rotate_left
         ·intro w'
          go_simp
          with_reducible rfl
         rotate_left
         ·simp only [Act.put, List.setIfInBounds_toArray, List.set_cons_zero, List.set_cons_succ, i64_w, i32_w]
          rfl
         refine pure_ (i := 3) (N := some 37) (v := ?_) (a' := ?_) #[true, true, true, true, false, false, false, false, false, false, false, false, false, false, false, false] rfl rfl (any_of HT_.out (by kernel_rfl)) (fun _ _ _ h => h) (Or.inl ⟨by rfl, ?_⟩) ?_ ?_
         rotate_left
         ·intro w'
          go_simp
          with_reducible rfl
         rotate_left
         ·simp only [Act.put, List.setIfInBounds_toArray, List.set_cons_zero, List.set_cons_succ, i64_w, i32_w]
          rfl
         refine pure_ (i := 4) (N := some 38) (v := ?_) (a' := ?_) #[true, true, true, true, true, false, false, false, false, false, false, false, false, false, false, false] rfl rfl (any_of HT_.out (by kernel_rfl)) (fun _ _ _ h => h) (Or.inl ⟨by rfl, ?_⟩) ?_ ?_
         rotate_left
         ·intro w'
          go_simp
          with_reducible rfl
         rotate_left
         ·simp only [Act.put, List.setIfInBounds_toArray, List.set_cons_zero, List.set_cons_succ, i64_w, i32_w]
          rfl
         refine pure_ (i := 5) (N := some 39) (v := ?_) (a' := ?_) #[true, true, true, true, true, true, false, false, false, false, false, false, false, false, false, false] rfl rfl (any_of HT_.out (by kernel_rfl)) (fun _ _ _ h => h) (Or.inl ⟨by rfl, ?_⟩) ?_ ?_
         rotate_left
         ·intro w'
          go_simp
          with_reducible rfl
         rotate_left
         ·simp only [Act.put, List.setIfInBounds_toArray, List.set_cons_zero, List.set_cons_succ, i64_w, i32_w]
          rfl
         refine pure_ (i := 6) (N := some 40) (v := ?_) (a' := ?_) #[true, true, true, true, true, true, true, false, false, false, false, false, false, false, false, false] rfl rfl (any_of HT_.out (by kernel_rfl)) (fun _ _ _ h => h) (Or.inl ⟨by rfl, ?_⟩) ?_ ?_
         rotate_left
         ·intro w'
          go_simp
          with_reducible rfl
         rotate_left
         ·simp only [Act.put, List.setIfInBounds_toArray, List.set_cons_zero, List.set_cons_succ, i64_w, i32_w]
          rfl
         refine pure_ (i := 7) (N := some 41) (v := ?_) (a' := ?_) #[true, true, true, true, true, true, true, true, false, false, false, false, false, false, false, false] rfl rfl (any_of HT_.out (by kernel_rfl)) (fun _ _ _ h => h) (Or.inl ⟨by rfl, ?_⟩) ?_ ?_
         rotate_left
         ·intro w'
          go_simp
          with_reducible rfl
         rotate_left
         ·simp only [Act.put, List.setIfInBounds_toArray, List.set_cons_zero, List.set_cons_succ, i64_w, i32_w]
          rfl
         refine pure_ (i := 9) (N := some 43) (v := ?_) (a' := ?_) #[true, true, true, true, true, true, true, true, false, true, false, false, false, false, false, false] rfl rfl (any_of HT_.out (by kernel_rfl)) (fun _ _ _ h => h) (Or.inl ⟨by rfl, ?_⟩) ?_ ?_
         rotate_left
         ·intro w'
          go_simp
          with_reducible rfl
         rotate_left
         ·simp only [Act.put, List.setIfInBounds_toArray, List.set_cons_zero, List.set_cons_succ, i64_w, i32_w]
          rfl
         refine pure_ (i := 11) (N := some 45) (v := ?_) (a' := ?_) #[true, true, true, true, true, true, true, true, false, true, false, true, false, false, false, false] rfl rfl (any_of HT_.out (by kernel_rfl)) (fun _ _ _ h => h) (Or.inl ⟨by rfl, ?_⟩) ?_ ?_
         rotate_left
         ·intro w'
          go_simp
          with_reducible rfl
         rotate_left
         ·simp only [Act.put, List.setIfInBounds_toArray, List.set_cons_zero, List.set_cons_succ, i64_w, i32_w]
          rfl
         refine take_ (i := 8) (N := some 42) (v := ?_) (a' := ?_) #[true, true, true, true, true, true, true, true, true, true, false, true, false, false, false, false] rfl rfl (take_ofW HT_.out HW_.out (by kernel_rfl)) (fun _ _ _ h => h) (Or.inl ⟨by rfl, ?_⟩) hHeld ?_ ?_
         rotate_left
         ·rintro w' ⟨s0, s1, s2, s3, s4⟩
          go_simp
          with_reducible rfl
         rotate_left
         ·simp only [Act.put, List.setIfInBounds_toArray, List.set_cons_zero, List.set_cons_succ, i64_w, i32_w]
          rfl
         refine take_ (i := 12) (N := some 46) (v := ?_) (a' := ?_) #[true, true, true, true, true, true, true, true, true, true, false, true, true, false, false, false] rfl rfl (take_ofW HT_.out HW_.out (by kernel_rfl)) (fun _ _ _ h => h) (Or.inl ⟨by rfl, ?_⟩) hHeld ?_ ?_
         rotate_left
         ·rintro w' ⟨s0, s1, s2, s3, s4⟩
          go_simp
          with_reducible rfl
         rotate_left
         ·simp only [Act.put, List.setIfInBounds_toArray, List.set_cons_zero, List.set_cons_succ, i64_w, i32_w]
          rfl
         refine one_ (i := 10) (N := some 44) #[true, true, true, true, true, true, true, true, true, true, true, true, true, false, false, false] rfl rfl (one_of HT_.out (by kernel_rfl)) (by decide) (fun K hK => ?_)
         refine goes_ Tryd.func7 (by kernel_rfl) rfl #[.int .u64 (rd l2 x10_1), .int .u64 t167] (by rfl) rfl rfl (by (try simp only [List.map_toArray, List.map_cons, List.map_nil]); first | done | rfl | (simp only [List.length_drop, List.length_take]; rfl)) ?_
         with_reducible refine (bits_Set_And.calls (rd l2 x10_1) t167 t169 _ A16.out).mono ?_
         rintro e w' ⟨rfl, ⟨nd, rfl⟩⟩
         refine ⟨_, rfl, ?_⟩
         refine hK.out _ _ ⟨(blk_cell BK162.out 0).trans rfl, (blk_cell BK162.out 1).trans rfl, (blk_cell BK162.out 2).trans rfl, (blk_cell BK162.out 3).trans rfl, ((HB.out.cell (World.block_lt_of_cell? w _ hw168_0)).trans hw168_0)⟩ (fun hHeld => ?_)
         clear hK K
         refine norm_ (a' := ?_) ?_ ?_
         rotate_left
         ·show Act.put _ (some 44) _ = _
          simp only [Act.put, List.setIfInBounds_toArray, List.set_cons_zero, List.set_cons_succ, i64_w, i32_w]
          rfl
         refine one_ (i := 13) (N := some 47) #[true, true, true, true, true, true, true, true, true, true, true, true, true, true, false, false] rfl rfl (one_of HT_.out (by kernel_rfl)) (by decide) (fun K hK => ?_)
         refine goes_ Tryd.func8 (by kernel_rfl) rfl #[.int .u64 t169, .int .u64 x163002_1] (by rfl) rfl rfl (by (try simp only [List.map_toArray, List.map_cons, List.map_nil]); first | done | rfl | (simp only [List.length_drop, List.length_take]; rfl)) ?_
         with_reducible refine (bits_Set_Less.calls t169 x163002_1 t170 _ A17.out).mono ?_
         rintro e w' ⟨rfl, ⟨nd, rfl⟩⟩
         refine ⟨_, rfl, ?_⟩
         refine hK.out _ _ ⟨(blk_cell BK162.out 0).trans rfl, (blk_cell BK162.out 1).trans rfl, (blk_cell BK162.out 2).trans rfl, (blk_cell BK162.out 3).trans rfl, ((HB.out.cell (World.block_lt_of_cell? w _ hw168_0)).trans hw168_0)⟩ (fun hHeld => ?_)
         clear hK K
         refine norm_ (a' := ?_) ?_ ?_
         rotate_left
         ·show Act.put _ (some 47) _ = _
          simp only [Act.put, List.setIfInBounds_toArray, List.set_cons_zero, List.set_cons_succ, i64_w, i32_w]
          rfl
         refine pure_ (i := 14) (N := some 48) (v := ?_) (a' := ?_) #[true, true, true, true, true, true, true, true, true, true, true, true, true, true, true, false] rfl rfl (any_of HT_.out (by kernel_rfl)) (fun _ _ _ h => h) (Or.inl ⟨by rfl, ?_⟩) ?_ ?_
         rotate_left
         ·intro w'
          go_simp
          with_reducible rfl
         rotate_left
         ·simp only [Act.put, List.setIfInBounds_toArray, List.set_cons_zero, List.set_cons_succ, i64_w, i32_w]
          rfl
         refine pure_ (i := 15) (N := some 49) (v := ?_) (a' := ?_) #[true, true, true, true, true, true, true, true, true, true, true, true, true, true, true, true] rfl rfl (any_of HT_.out (by kernel_rfl)) (fun _ _ _ h => h) (Or.inl ⟨by rfl, ?_⟩) ?_ ?_
         rotate_left
         ·intro w'
          go_simp
          with_reducible rfl
         rotate_left
         ·simp only [Act.put, List.setIfInBounds_toArray, List.set_cons_zero, List.set_cons_succ, i64_w, i32_w]
          rfl
         refine done_ (done_of HT_.out (by kernel_rfl)) ?_
         try go_wp2
         go_meet
         case rel => exact ⟨_, ((t170 != 0)), (by first | rfl | (simp; done) | (simp [*]; done)), H', ⟨by have := HK1.out; have := HJ5.out; first | omega | exact Nat.le_refl _⟩, ⟨by (with_reducible repeat (first | refine blk_drewN ?_ _ | refine blk_drew ?_ | refine blk_alloc ?_ _)); exact BK162.out⟩, ⟨by repeat (first | (with_reducible first | exact HB.out | apply below_alloc | apply pw_below_drewN | apply below_drew1 | refine below_set ?_ GE162.out) | exact HB.out)⟩⟩
        ·rw [if_neg c15] at H
         exact absurd H (by simp)
       ·rw [if_neg c14] at H
        have c14b0 : decide (x10_1 < (l2.length : Int)) = false := decide_eq_false c14
        clear c14
        (first | rw [c14b0] | (simp only [i64_w, i32_w]; rw [c14b0]) | skip)
        have H' := Aside0.mk H
        clear H
        try go_wp2
        have n0_ := Aside0.mk (blk_drew BK162.out)
        have n1_ := Aside0.mk (below_drew1 HB.out)
        clear BK162
        clear HB
        have BK162 := n0_
        have HB := n1_
        clear n0_ n1_
        refine start_ (n := 16) (S := fun w' => True) (ds := []) #[false, false, false, false, false, false, false, false, false, false, false, false, false, false, false, false] (by kernel_rfl) rfl rfl trivial (fun hHeld => ?_); refine with_tabW berthinglaw21_RollEnds.tab9 berthinglaw21_RollEnds.bits9 (fun HT_ HW_ => ?_)
        generalize wc.drew = w19 at BK162 HB hHeld ⊢
        refine pure_ (i := 0) (N := some 34) (v := ?_) (a' := ?_) #[true, false, false, false, false, false, false, false, false, false, false, false, false, false, false, false] rfl rfl (any_of HT_.out (by kernel_rfl)) (fun _ _ _ h => h) (Or.inl ⟨by rfl, ?_⟩) ?_ ?_
        rotate_left
        ·intro w'
         go_simp
         with_reducible rfl
        rotate_left
        ·simp only [Act.put, List.setIfInBounds_toArray, List.set_cons_zero, List.set_cons_succ, i64_w, i32_w]
         rfl
        refine pure_ (i := 1) (N := some 35) (v := ?_) (a' := ?_) #[true, true, false, false, false, false, false, false, false, false, false, false, false, false, false, false] rfl rfl (any_of HT_.out (by kernel_rfl)) (fun _ _ _ h => h) (Or.inl ⟨by rfl, ?_⟩) ?_ ?_
        rotate_left
        ·intro w'
         go_simp
         with_reducible rfl
        rotate_left
        ·simp only [Act.put, List.setIfInBounds_toArray, List.set_cons_zero, List.set_cons_succ, i64_w, i32_w]
         rfl
        refine pure_ (i := 2) (N := some 36) (v := ?_) (a' := ?_) #[true, true, true, false, false, false, false, false, false, false, false, false, false, false, false, false] rfl rfl (any_of HT_.out (by kernel_rfl)) (fun _ _ _ h => h) (Or.inl ⟨by rfl, ?_⟩) ?_ ?_
        rotate_left
        ·intro w'
         go_simp
         with_reducible rfl
        rotate_left
        ·simp only [Act.put, List.setIfInBounds_toArray, List.set_cons_zero, List.set_cons_succ, i64_w, i32_w]
         rfl
        refine pure_ (i := 3) (N := some 37) (v := ?_) (a' := ?_) #[true, true, true, true, false, false, false, false, false, false, false, false, false, false, false, false] rfl rfl (any_of HT_.out (by kernel_rfl)) (fun _ _ _ h => h) (Or.inl ⟨by rfl, ?_⟩) ?_ ?_
        rotate_left
        ·intro w'
         go_simp
         with_reducible rfl
        rotate_left
        ·simp only [Act.put, List.setIfInBounds_toArray, List.set_cons_zero, List.set_cons_succ, i64_w, i32_w]
         rfl
        refine pure_ (i := 4) (N := some 38) (v := ?_) (a' := ?_) #[true, true, true, true, true, false, false, false, false, false, false, false, false, false, false, false] rfl rfl (any_of HT_.out (by kernel_rfl)) (fun _ _ _ h => h) (Or.inl ⟨by rfl, ?_⟩) ?_ ?_
        rotate_left
        ·intro w'
         go_simp
         with_reducible rfl
        rotate_left
        ·simp only [Act.put, List.setIfInBounds_toArray, List.set_cons_zero, List.set_cons_succ, i64_w, i32_w]
         rfl
        refine pure_ (i := 5) (N := some 39) (v := undef) (a' := ?_) #[true, true, true, true, true, true, false, false, false, false, false, false, false, false, false, false] rfl rfl (any_of HT_.out (by kernel_rfl)) (fun _ _ _ h => h) (Or.inr ⟨by rfl, rfl⟩) ?_ ?_
        rotate_left
        ·simp only [Act.put, List.setIfInBounds_toArray, List.set_cons_zero, List.set_cons_succ, i64_w, i32_w]
         rfl
        refine pure_ (i := 6) (N := some 40) (v := undef) (a' := ?_) #[true, true, true, true, true, true, true, false, false, false, false, false, false, false, false, false] rfl rfl (any_of HT_.out (by kernel_rfl)) (fun _ _ _ h => h) (Or.inr ⟨by rfl, rfl⟩) ?_ ?_
        rotate_left
        ·simp only [Act.put, List.setIfInBounds_toArray, List.set_cons_zero, List.set_cons_succ, i64_w, i32_w]
         rfl
        refine pure_ (i := 7) (N := some 41) (v := undef) (a' := ?_) #[true, true, true, true, true, true, true, true, false, false, false, false, false, false, false, false] rfl rfl (any_of HT_.out (by kernel_rfl)) (fun _ _ _ h => h) (Or.inr ⟨by rfl, rfl⟩) ?_ ?_
        rotate_left
        ·simp only [Act.put, List.setIfInBounds_toArray, List.set_cons_zero, List.set_cons_succ, i64_w, i32_w]
         rfl
        refine pure_ (i := 8) (N := some 42) (v := undef) (a' := ?_) #[true, true, true, true, true, true, true, true, true, false, false, false, false, false, false, false] rfl rfl (any_of HT_.out (by kernel_rfl)) (fun _ _ _ h => h) (Or.inr ⟨by rfl, rfl⟩) ?_ ?_
        rotate_left
        ·simp only [Act.put, List.setIfInBounds_toArray, List.set_cons_zero, List.set_cons_succ, i64_w, i32_w]
         rfl
        refine pure_ (i := 9) (N := some 43) (v := undef) (a' := ?_) #[true, true, true, true, true, true, true, true, true, true, false, false, false, false, false, false] rfl rfl (any_of HT_.out (by kernel_rfl)) (fun _ _ _ h => h) (Or.inr ⟨by rfl, rfl⟩) ?_ ?_
        rotate_left
        ·simp only [Act.put, List.setIfInBounds_toArray, List.set_cons_zero, List.set_cons_succ, i64_w, i32_w]
         rfl
        refine pure_ (i := 10) (N := some 44) (v := undef) (a' := ?_) #[true, true, true, true, true, true, true, true, true, true, true, false, false, false, false, false] rfl rfl (any_of HT_.out (by kernel_rfl)) (fun _ _ _ h => h) (Or.inr ⟨by rfl, rfl⟩) ?_ ?_
        rotate_left
        ·simp only [Act.put, List.setIfInBounds_toArray, List.set_cons_zero, List.set_cons_succ, i64_w, i32_w]
         rfl
        refine pure_ (i := 11) (N := some 45) (v := undef) (a' := ?_) #[true, true, true, true, true, true, true, true, true, true, true, true, false, false, false, false] rfl rfl (any_of HT_.out (by kernel_rfl)) (fun _ _ _ h => h) (Or.inr ⟨by rfl, rfl⟩) ?_ ?_
        rotate_left
        ·simp only [Act.put, List.setIfInBounds_toArray, List.set_cons_zero, List.set_cons_succ, i64_w, i32_w]
         rfl
        refine pure_ (i := 12) (N := some 46) (v := undef) (a' := ?_) #[true, true, true, true, true, true, true, true, true, true, true, true, true, false, false, false] rfl rfl (any_of HT_.out (by kernel_rfl)) (fun _ _ _ h => h) (Or.inr ⟨by rfl, rfl⟩) ?_ ?_
        rotate_left
        ·simp only [Act.put, List.setIfInBounds_toArray, List.set_cons_zero, List.set_cons_succ, i64_w, i32_w]
         rfl
        refine pure_ (i := 13) (N := some 47) (v := undef) (a' := ?_) #[true, true, true, true, true, true, true, true, true, true, true, true, true, true, false, false] rfl rfl (any_of HT_.out (by kernel_rfl)) (fun _ _ _ h => h) (Or.inr ⟨by rfl, rfl⟩) ?_ ?_
        rotate_left
        ·simp only [Act.put, List.setIfInBounds_toArray, List.set_cons_zero, List.set_cons_succ, i64_w, i32_w]
         rfl
        refine pure_ (i := 14) (N := some 48) (v := undef) (a' := ?_) #[true, true, true, true, true, true, true, true, true, true, true, true, true, true, true, false] rfl rfl (any_of HT_.out (by kernel_rfl)) (fun _ _ _ h => h) (Or.inr ⟨by rfl, rfl⟩) ?_ ?_
        rotate_left
        ·simp only [Act.put, List.setIfInBounds_toArray, List.set_cons_zero, List.set_cons_succ, i64_w, i32_w]
         rfl
        refine pure_ (i := 15) (N := some 49) (v := ?_) (a' := ?_) #[true, true, true, true, true, true, true, true, true, true, true, true, true, true, true, true] rfl rfl (any_of HT_.out (by kernel_rfl)) (fun _ _ _ h => h) (Or.inl ⟨by rfl, ?_⟩) ?_ ?_
        rotate_left
        ·intro w'
         go_simp
         with_reducible rfl
        rotate_left
        ·simp only [Act.put, List.setIfInBounds_toArray, List.set_cons_zero, List.set_cons_succ, i64_w, i32_w]
         rfl
        refine done_ (done_of HT_.out (by kernel_rfl)) ?_
        try go_wp2
        go_meet
        case rel => exact ⟨_, (false), (by first | rfl | (simp; done) | (simp [*]; done)), H', ⟨by have := HK1.out; have := HJ5.out; first | omega | exact Nat.le_refl _⟩, ⟨by (with_reducible repeat (first | refine blk_drewN ?_ _ | refine blk_drew ?_ | refine blk_alloc ?_ _)); exact BK162.out⟩, ⟨by repeat (first | (with_reducible first | exact HB.out | apply below_alloc | apply pw_below_drewN | apply below_drew1 | refine below_set ?_ GE162.out) | exact HB.out)⟩⟩
      case rest =>
       clear HC13
       try clear c1
       try clear p1
       try clear q1
       try clear hx1
       try clear c2
       try clear p2
       try clear c3
       try clear c6
       try clear p6
       try clear c7
       try clear c7b0
       try clear c8
       try clear c11
       try clear c14
       try clear c14b0
       try clear c15
       try clear c15b0
       try clear p16
       try clear q16
       try clear hx16
       try clear hcz5_0
       try clear hcz5_1
       try clear hcz5_2
       try clear hcz5_3
       try clear hcz9_0
       try clear hcz9_1
       try clear hcz9_2
       try clear hcz9_3
       try clear hfz5_0
       try clear hfz5_1
       try clear hfz5_2
       try clear hfz5_3
       try clear hfz9_0
       try clear hfz9_1
       try clear hfz9_2
       try clear hfz9_3
       try clear hx168_0
       try clear p168
       try clear p2
       try clear p6
       try clear q168
       obtain ⟨kq, x49_12, rfl, HA, HJ12, BK162, HB⟩ := hcut
       cases kq with
       | zero => exact absurd HA.out (by simp [berthinglaw21_RollEnds.j2])
       | succ kj12 =>
        have H := HA.out
        clear HA
        simp only [berthinglaw21_RollEnds.j2] at H
        have HC20 := Aside0.mk H
        clear H
        go_upto_if 49 with (fail)
        go_cut [11] (fun v11 wc => ∃ (kq : Nat) (x11_19 : Int), v11 = .int .u64 x11_19 ∧ Aside0 (berthinglaw21_RollEnds.j3 kq (wrap64 (1 + (Go.bits .and .i64 a0 7))) (wrap64 (1 + (Go.bits .and .i64 a1 63))) l2 x8_1 x9_1 x10_1 x11_19 x163000_1 x163001_1 x163002_1 x163003_1 = some r) ∧ Aside0 (kq ≤ kj12) ∧ Aside0 (wc.heap[gb162]? = some (.cells #[.int .i64 x163000_1, .int .i64 x163001_1, .int .u64 x163002_1, .int .u64 x163003_1] 27 (0, 0))) ∧ Aside0 (Below w.heap.size w wc))
        case first =>
         have H := HC20.out
         clear HC20
         by_cases c21 : x49_12 = true
         ·subst c21
          have H1 : (if 0 ≤ x10_1 then (if x10_1 < (l2.length : Int) then ((bits_Set_And.f (rd l2 x10_1) t167).bind fun t172 => (berthinglaw21_RollEnds.j3 kj12 (wrap64 (1 + (Go.bits .and .i64 a0 7))) (wrap64 (1 + (Go.bits .and .i64 a1 63))) l2 x8_1 x9_1 x10_1 t172 x163000_1 x163001_1 x163002_1 x163003_1)) else (none)) else (none)) = some r := by rw [if_pos rfl] at H; exact H
          clear H
          have H := H1
          clear H1
          by_cases c22 : 0 ≤ x10_1
          ·rw [if_pos c22] at H
           have c22b0 : decide (0 ≤ x10_1) = true := decide_eq_true c22
           clear c22
           (first | rw [c22b0] | (simp only [i64_w, i32_w]; rw [c22b0]) | skip)
           by_cases c23 : x10_1 < (l2.length : Int)
           ·rw [if_pos c23] at H
            have c23b0 : decide (x10_1 < (l2.length : Int)) = true := decide_eq_true c23
            clear c23
            replace H := Option.bind_eq_some_iff.mp H
            obtain ⟨t172, A240, H⟩ := H
            replace H : (berthinglaw21_RollEnds.j3 kj12 (wrap64 (1 + (Go.bits .and .i64 a0 7))) (wrap64 (1 + (Go.bits .and .i64 a1 63))) l2 x8_1 x9_1 x10_1 t172 x163000_1 x163001_1 x163002_1 x163003_1) = some r := H
            have A24 := Aside0.mk A240
            clear A240
            have H' := Aside0.mk H
            clear H
            have p171 : 0 ≤ (x10_1 : Int) := of_decide_eq_true (by first | (with_reducible assumption) | assumption)
            have q171 : x10_1 < (l2.length : Int) := of_decide_eq_true (by first | (with_reducible assumption) | assumption)
            obtain ⟨ad171, e171, hx171_0⟩ := Kd.at_int HR2.out x10_1 p171 q171
            cases e171
            replace hx171_0 := (HB.out.cell (World.block_lt_of_cell? w _ hx171_0)).trans hx171_0
            replace p171 := eq_true p171
            replace q171 := eq_true q171
            go_wp2_with (first | ((with_reducible refine gate_callee (f := 7) rfl ?_); refine goesL_ (some 55) rfl rfl Tryd.func7 (by kernel_rfl) rfl #[.int .u64 (rd l2 x10_1), .int .u64 t167] rfl (by (try simp only [List.map_toArray, List.map_cons, List.map_nil]); first | done | rfl | (simp only [List.length_drop, List.length_take]; rfl)) ?_; (with_reducible refine (bits_Set_And.calls (rd l2 x10_1) t167 t172 _ A24.out).mono ?_); rintro e w' ⟨rfl, ⟨nd, rfl⟩⟩; refine ⟨_, rfl, ?_⟩))
            go_meet
            case rel => exact ⟨_, (t172), (by first | rfl | (simp; done) | (simp [*]; done)), H', ⟨by have := HK1.out; have := HJ5.out; have := HJ12.out; first | omega | exact Nat.le_refl _⟩, ⟨by (with_reducible repeat (first | refine blk_drewN ?_ _ | refine blk_drew ?_ | refine blk_alloc ?_ _)); exact BK162.out⟩, ⟨by repeat (first | (with_reducible first | exact HB.out | apply below_alloc | apply pw_below_drewN | apply below_drew1 | refine below_set ?_ GE162.out) | exact HB.out)⟩⟩
           ·rw [if_neg c23] at H
            exact absurd H (by simp)
          ·rw [if_neg c22] at H
           exact absurd H (by simp)
         ·replace c21 := Bool.eq_false_iff.mpr c21
          subst c21
          have H1 : (berthinglaw21_RollEnds.j3 kj12 (wrap64 (1 + (Go.bits .and .i64 a0 7))) (wrap64 (1 + (Go.bits .and .i64 a1 63))) l2 x8_1 x9_1 x10_1 t167 x163000_1 x163001_1 x163002_1 x163003_1) = some r := by rw [if_neg (show ¬ (false = true) by decide)] at H; exact H
          clear H
          have H := H1
          clear H1
          have H' := Aside0.mk H
          clear H
          go_wp2
          go_meet
          case rel => exact ⟨_, (t167), (by first | rfl | (simp; done) | (simp [*]; done)), H', ⟨by have := HK1.out; have := HJ5.out; have := HJ12.out; first | omega | exact Nat.le_refl _⟩, ⟨by (with_reducible repeat (first | refine blk_drewN ?_ _ | refine blk_drew ?_ | refine blk_alloc ?_ _)); exact BK162.out⟩, ⟨by repeat (first | (with_reducible first | exact HB.out | apply below_alloc | apply pw_below_drewN | apply below_drew1 | refine below_set ?_ GE162.out) | exact HB.out)⟩⟩
        case rest =>
         clear HC20
         try clear c1
         try clear p1
         try clear q1
         try clear hx1
         try clear c2
         try clear p2
         try clear c3
         try clear c6
         try clear p6
         try clear c7
         try clear c7b0
         try clear c8
         try clear c11
         try clear c14
         try clear c14b0
         try clear c15
         try clear c15b0
         try clear p16
         try clear q16
         try clear hx16
         try clear p17
         try clear q17
         try clear hx17
         try clear c21
         try clear c22
         try clear c22b0
         try clear c23
         try clear c23b0
         try clear hcz5_0
         try clear hcz5_1
         try clear hcz5_2
         try clear hcz5_3
         try clear hcz9_0
         try clear hcz9_1
         try clear hcz9_2
         try clear hcz9_3
         try clear hfz5_0
         try clear hfz5_1
         try clear hfz5_2
         try clear hfz5_3
         try clear hfz9_0
         try clear hfz9_1
         try clear hfz9_2
         try clear hfz9_3
         try clear hx168_0
         try clear hx171_0
         try clear p1
         try clear p16
         try clear p168
         try clear p171
         try clear p2
         try clear p6
         try clear q1
         try clear q16
         try clear q168
         try clear q171
         obtain ⟨kq, x11_19, rfl, HA, HJ19, BK162, HB⟩ := hcut
         cases kq with
         | zero => exact absurd HA.out (by simp [berthinglaw21_RollEnds.j3])
         | succ kj19 =>
          have H := HA.out
          clear HA
          simp only [berthinglaw21_RollEnds.j3] at H
          replace H := Option.bind_eq_some_iff.mp H
          obtain ⟨t173, A250, H⟩ := H
          replace H : (if t173 = 0 then (berthinglaw21_RollEnds.j4 kj19 (wrap64 (1 + (Go.bits .and .i64 a0 7))) (wrap64 (1 + (Go.bits .and .i64 a1 63))) l2 x8_1 x9_1 x10_1 t173 true x163000_1 x163001_1 x163002_1 x163003_1) else ((bits_Set_And.f t173 x8_1).bind fun t174 => (if t174 = 0 then ((bits_Set_Less.f t173 x11_19).bind fun t175 => (berthinglaw21_RollEnds.j4 kj19 (wrap64 (1 + (Go.bits .and .i64 a0 7))) (wrap64 (1 + (Go.bits .and .i64 a1 63))) l2 x8_1 x9_1 x10_1 t173 (t175 != 0) x163000_1 x163001_1 x163002_1 x163003_1)) else (berthinglaw21_RollEnds.j4 kj19 (wrap64 (1 + (Go.bits .and .i64 a0 7))) (wrap64 (1 + (Go.bits .and .i64 a1 63))) l2 x8_1 x9_1 x10_1 t173 true x163000_1 x163001_1 x163002_1 x163003_1)))) = some r := H
          have A25 := Aside0.mk A250
          clear A250
          have HC26 := Aside0.mk H
          clear H
          have hcz27_0 : wc.cell? ⟨gb162, 0, none⟩ = some (.int .i64 x163000_1) := (blk_cell BK162.out 0).trans rfl
          have hcz27_1 : wc.cell? ⟨gb162, 1, none⟩ = some (.int .i64 x163001_1) := (blk_cell BK162.out 1).trans rfl
          have hcz27_2 : wc.cell? ⟨gb162, 2, none⟩ = some (.int .u64 x163002_1) := (blk_cell BK162.out 2).trans rfl
          have hcz27_3 : wc.cell? ⟨gb162, 3, none⟩ = some (.int .u64 x163003_1) := (blk_cell BK162.out 3).trans rfl
          have hfz27_0 := blk_frozen BK162.out 0
          have hfz27_1 := blk_frozen BK162.out 1
          have hfz27_2 := blk_frozen BK162.out 2
          have hfz27_3 := blk_frozen BK162.out 3
          go_upto_region 12 with (first | ((with_reducible refine gate_callee (f := 9) rfl ?_); refine goesL_ (some 59) rfl rfl Tryd.func9 (by kernel_rfl) rfl #[.agg #[.int .i64 x163000_1, .int .i64 x163001_1, .int .u64 x163002_1, .int .u64 x163003_1], .int .i64 x10_1, .int .u64 x11_19] rfl (by (try simp only [List.map_toArray, List.map_cons, List.map_nil]); first | done | rfl | (simp only [List.length_drop, List.length_take]; rfl)) ?_; (with_reducible refine (roll_Roll_Next.calls x163000_1 x163001_1 x163002_1 x163003_1 x10_1 x11_19 t173 _ (RollNext.Tab.go (by repeat (first | (with_reducible first | exact HB.out | apply below_alloc | apply pw_below_drewN | apply below_drew1 | refine below_set ?_ GE162.out) | exact HB.out)) hT) A25.out).mono ?_); rintro e w28 ⟨rfl, hb⟩; refine ⟨_, rfl, ?_⟩; have n0_ := Aside0.mk (blk_below (g := gb162) (o := .cells #[.int .i64 x163000_1, .int .i64 x163001_1, .int .u64 x163002_1, .int .u64 x163003_1] 27 (0, 0)) (by (with_reducible repeat (first | refine blk_drewN ?_ _ | refine blk_drew ?_ | refine blk_alloc ?_ _)); exact BK162.out) hb); have n1_ := Aside0.mk (below_step (by repeat (first | (with_reducible first | exact HB.out | apply below_alloc | apply pw_below_drewN | apply below_drew1 | refine below_set ?_ GE162.out) | exact HB.out)) hb); clear BK162; clear HB; have BK162 := n0_; have HB := n1_; clear n0_ n1_; (try clear hb); (try clear hb2); (try clear hk); (try clear hi)))
          (try simp only [Act.put, List.setIfInBounds_toArray, List.set_cons_zero, List.set_cons_succ])
          go_cut [73] (fun v73 wc => ∃ (kq : Nat) (x73_25 : Bool), v73 = .bool x73_25 ∧ Aside0 (berthinglaw21_RollEnds.j4 kq (wrap64 (1 + (Go.bits .and .i64 a0 7))) (wrap64 (1 + (Go.bits .and .i64 a1 63))) l2 x8_1 x9_1 x10_1 t173 x73_25 x163000_1 x163001_1 x163002_1 x163003_1 = some r) ∧ Aside0 (kq ≤ kj19) ∧ Aside0 (wc.heap[gb162]? = some (.cells #[.int .i64 x163000_1, .int .i64 x163001_1, .int .u64 x163002_1, .int .u64 x163003_1] 27 (0, 0))) ∧ Aside0 (Below w.heap.size w wc))
          case first =>
           have H := HC26.out
           clear HC26
           by_cases c29 : t173 = 0
           ·rw [if_pos c29] at H
            have c29b0 : (t173 == 0) = true := beq_iff_eq.mpr c29
            have c29b1 : (t173 != 0) = false := bne_eq_false_iff_eq.mpr c29
            clear c29
            (first | rw [c29b0] | (simp only [i64_w, i32_w]; rw [c29b0]) | skip)
            have H' := Aside0.mk H
            clear H
            go_wp2
            go_meet
            case rel => exact ⟨_, (true), (by first | rfl | (simp; done) | (simp [*]; done)), H', ⟨by have := HK1.out; have := HJ5.out; have := HJ12.out; have := HJ19.out; first | omega | exact Nat.le_refl _⟩, ⟨by (with_reducible repeat (first | refine blk_drewN ?_ _ | refine blk_drew ?_ | refine blk_alloc ?_ _)); exact BK162.out⟩, ⟨by repeat (first | (with_reducible first | exact HB.out | apply below_alloc | apply pw_below_drewN | apply below_drew1 | refine below_set ?_ GE162.out) | exact HB.out)⟩⟩
           ·rw [if_neg c29] at H
            have c29b0 : (t173 == 0) = false := beq_eq_false_iff_ne.mpr c29
            have c29b1 : (t173 != 0) = true := bne_iff_ne.mpr c29
            (first | rw [c29b0] | (simp only [i64_w, i32_w]; rw [c29b0]) | skip)
            replace H := Option.bind_eq_some_iff.mp H
            obtain ⟨t174, A300, H⟩ := H
            replace H : (if t174 = 0 then ((bits_Set_Less.f t173 x11_19).bind fun t175 => (berthinglaw21_RollEnds.j4 kj19 (wrap64 (1 + (Go.bits .and .i64 a0 7))) (wrap64 (1 + (Go.bits .and .i64 a1 63))) l2 x8_1 x9_1 x10_1 t173 (t175 != 0) x163000_1 x163001_1 x163002_1 x163003_1)) else (berthinglaw21_RollEnds.j4 kj19 (wrap64 (1 + (Go.bits .and .i64 a0 7))) (wrap64 (1 + (Go.bits .and .i64 a1 63))) l2 x8_1 x9_1 x10_1 t173 true x163000_1 x163001_1 x163002_1 x163003_1)) = some r := H
            have A30 := Aside0.mk A300
            clear A300
            by_cases c31 : t174 = 0
            ·rw [if_pos c31] at H
             have c31b0 : (t174 == 0) = true := beq_iff_eq.mpr c31
             have c31b1 : (t174 != 0) = false := bne_eq_false_iff_eq.mpr c31
             clear c31
             replace H := Option.bind_eq_some_iff.mp H
             obtain ⟨t175, A320, H⟩ := H
             replace H : (berthinglaw21_RollEnds.j4 kj19 (wrap64 (1 + (Go.bits .and .i64 a0 7))) (wrap64 (1 + (Go.bits .and .i64 a1 63))) l2 x8_1 x9_1 x10_1 t173 (t175 != 0) x163000_1 x163001_1 x163002_1 x163003_1) = some r := H
             have A32 := Aside0.mk A320
             clear A320
             have H' := Aside0.mk H
             clear H
             go_wp2_with (first | (go_at_call 7; (with_reducible refine (bits_Set_And.calls t173 x8_1 t174 _ A30.out).mono ?_); rintro e w' ⟨rfl, ⟨nd, rfl⟩⟩) | (go_at_call 8; (with_reducible refine (bits_Set_Less.calls t173 x11_19 t175 _ A32.out).mono ?_); rintro e w' ⟨rfl, ⟨nd, rfl⟩⟩))
             go_meet
             case rel => exact ⟨_, ((t175 != 0)), (by first | rfl | (simp; done) | (simp [*]; done)), H', ⟨by have := HK1.out; have := HJ5.out; have := HJ12.out; have := HJ19.out; first | omega | exact Nat.le_refl _⟩, ⟨by (with_reducible repeat (first | refine blk_drewN ?_ _ | refine blk_drew ?_ | refine blk_alloc ?_ _)); exact BK162.out⟩, ⟨by repeat (first | (with_reducible first | exact HB.out | apply below_alloc | apply pw_below_drewN | apply below_drew1 | refine below_set ?_ GE162.out) | exact HB.out)⟩⟩
            ·rw [if_neg c31] at H
             have c31b0 : (t174 == 0) = false := beq_eq_false_iff_ne.mpr c31
             have c31b1 : (t174 != 0) = true := bne_iff_ne.mpr c31
             have H' := Aside0.mk H
             clear H
             go_wp2_with (first | (go_at_call 7; (with_reducible refine (bits_Set_And.calls t173 x8_1 t174 _ A30.out).mono ?_); rintro e w' ⟨rfl, ⟨nd, rfl⟩⟩))
             go_meet
             case rel => exact ⟨_, (true), (by first | rfl | (simp; done) | (simp [*]; done)), H', ⟨by have := HK1.out; have := HJ5.out; have := HJ12.out; have := HJ19.out; first | omega | exact Nat.le_refl _⟩, ⟨by (with_reducible repeat (first | refine blk_drewN ?_ _ | refine blk_drew ?_ | refine blk_alloc ?_ _)); exact BK162.out⟩, ⟨by repeat (first | (with_reducible first | exact HB.out | apply below_alloc | apply pw_below_drewN | apply below_drew1 | refine below_set ?_ GE162.out) | exact HB.out)⟩⟩
          case rest =>
           clear HC26
           try clear c1
           try clear p1
           try clear q1
           try clear hx1
           try clear c2
           try clear p2
           try clear c3
           try clear c6
           try clear p6
           try clear c7
           try clear c7b0
           try clear c8
           try clear c9
           try clear c11
           try clear c14
           try clear c14b0
           try clear c15
           try clear c15b0
           try clear p16
           try clear q16
           try clear hx16
           try clear p17
           try clear q17
           try clear hx17
           try clear c21
           try clear c22
           try clear c22b0
           try clear c23
           try clear c23b0
           try clear c29
           try clear c29b0
           try clear c29b1
           try clear c31
           try clear c31b0
           try clear c31b1
           try clear hcz27_0
           try clear hcz27_1
           try clear hcz27_2
           try clear hcz27_3
           try clear hcz5_0
           try clear hcz5_1
           try clear hcz5_2
           try clear hcz5_3
           try clear hcz9_0
           try clear hcz9_1
           try clear hcz9_2
           try clear hcz9_3
           try clear hfz27_0
           try clear hfz27_1
           try clear hfz27_2
           try clear hfz27_3
           try clear hfz5_0
           try clear hfz5_1
           try clear hfz5_2
           try clear hfz5_3
           try clear hfz9_0
           try clear hfz9_1
           try clear hfz9_2
           try clear hfz9_3
           try clear hx168_0
           try clear hx171_0
           try clear p1
           try clear p16
           try clear p168
           try clear p17
           try clear p171
           try clear p2
           try clear p6
           try clear q1
           try clear q16
           try clear q168
           try clear q17
           try clear q171
           obtain ⟨kq, x73_25, rfl, HA, HJ25, BK162, HB⟩ := hcut
           cases kq with
           | zero => exact absurd HA.out (by simp [berthinglaw21_RollEnds.j4])
           | succ kj25 =>
            have H := HA.out
            clear HA
            simp only [berthinglaw21_RollEnds.j4] at H
            by_cases c33 : x73_25 = true
            ·subst c33
             have H1 : (none) = some r := by rw [if_pos rfl] at H; exact H
             clear H
             have H := H1
             clear H1
             exact absurd H (by simp)
            ·replace c33 := Bool.eq_false_iff.mpr c33
             subst c33
             have H1 : ((bits_Set_Or.f x8_1 t173).bind fun t176 => ((roll_Roll_Hold.f x163000_1 x163001_1 x163002_1 x163003_1 t173).bind fun bt177 => ((bits_Set_Len.f bt177.2.2.2).bind fun t181 => (if t181 > (wrap64 (1 + (Go.bits .and .i64 a0 7))) then (berthinglaw21_RollEnds.j5 kj25 (wrap64 (1 + (Go.bits .and .i64 a0 7))) (wrap64 (1 + (Go.bits .and .i64 a1 63))) l2 t176 x9_1 x10_1 true bt177.1 bt177.2.1 bt177.2.2.1 bt177.2.2.2) else ((roll_Roll_Right.f kj25 bt177.1 bt177.2.1 bt177.2.2.1 bt177.2.2.2 (wrap64 (1 + (Go.bits .and .i64 a1 63)))).bind fun t182 => (berthinglaw21_RollEnds.j5 kj25 (wrap64 (1 + (Go.bits .and .i64 a0 7))) (wrap64 (1 + (Go.bits .and .i64 a1 63))) l2 t176 x9_1 x10_1 (!t182) bt177.1 bt177.2.1 bt177.2.2.1 bt177.2.2.2)))))) = some r := by rw [if_neg (show ¬ (false = true) by decide)] at H; exact H
             clear H
             have H := H1
             clear H1
             replace H := Option.bind_eq_some_iff.mp H
             obtain ⟨t176, A340, H⟩ := H
             replace H : ((roll_Roll_Hold.f x163000_1 x163001_1 x163002_1 x163003_1 t173).bind fun bt177 => ((bits_Set_Len.f bt177.2.2.2).bind fun t181 => (if t181 > (wrap64 (1 + (Go.bits .and .i64 a0 7))) then (berthinglaw21_RollEnds.j5 kj25 (wrap64 (1 + (Go.bits .and .i64 a0 7))) (wrap64 (1 + (Go.bits .and .i64 a1 63))) l2 t176 x9_1 x10_1 true bt177.1 bt177.2.1 bt177.2.2.1 bt177.2.2.2) else ((roll_Roll_Right.f kj25 bt177.1 bt177.2.1 bt177.2.2.1 bt177.2.2.2 (wrap64 (1 + (Go.bits .and .i64 a1 63)))).bind fun t182 => (berthinglaw21_RollEnds.j5 kj25 (wrap64 (1 + (Go.bits .and .i64 a0 7))) (wrap64 (1 + (Go.bits .and .i64 a1 63))) l2 t176 x9_1 x10_1 (!t182) bt177.1 bt177.2.1 bt177.2.2.1 bt177.2.2.2))))) = some r := H
             have A34 := Aside0.mk A340
             clear A340
             replace H := Option.bind_eq_some_iff.mp H
             obtain ⟨⟨t177, t178, t179, t180⟩, A350, H⟩ := H
             replace H : ((bits_Set_Len.f t180).bind fun t181 => (if t181 > (wrap64 (1 + (Go.bits .and .i64 a0 7))) then (berthinglaw21_RollEnds.j5 kj25 (wrap64 (1 + (Go.bits .and .i64 a0 7))) (wrap64 (1 + (Go.bits .and .i64 a1 63))) l2 t176 x9_1 x10_1 true t177 t178 t179 t180) else ((roll_Roll_Right.f kj25 t177 t178 t179 t180 (wrap64 (1 + (Go.bits .and .i64 a1 63)))).bind fun t182 => (berthinglaw21_RollEnds.j5 kj25 (wrap64 (1 + (Go.bits .and .i64 a0 7))) (wrap64 (1 + (Go.bits .and .i64 a1 63))) l2 t176 x9_1 x10_1 (!t182) t177 t178 t179 t180)))) = some r := H
             have A35 := Aside0.mk A350
             clear A350
             have HC36 := Aside0.mk H
             clear H
             go_upto_region 16 with (first | ((with_reducible refine gate_callee (f := 10) rfl ?_); refine goesL_ (some 76) rfl rfl Tryd.func10 (by kernel_rfl) rfl #[.int .u64 x8_1, .int .u64 t173] rfl (by (try simp only [List.map_toArray, List.map_cons, List.map_nil]); first | done | rfl | (simp only [List.length_drop, List.length_take]; rfl)) ?_; (with_reducible refine (bits_Set_Or.calls x8_1 t173 t176 _ A34.out).mono ?_); rintro e w' ⟨rfl, ⟨nd, rfl⟩⟩; refine ⟨_, rfl, ?_⟩; (try (rw [drewN_self wc]; generalize hq_ : World.drewN wc _ = wc; have n0_ : Aside0 (wc.heap[gb162]? = some (.cells #[.int .i64 x163000_1, .int .i64 x163001_1, .int .u64 x163002_1, .int .u64 x163003_1] 27 (0, 0))) := ⟨by rw [← hq_]; exact (by (with_reducible repeat (first | refine blk_drewN ?_ _ | refine blk_drew ?_ | refine blk_alloc ?_ _)); exact BK162.out)⟩; have n1_ : Aside0 (Below w.heap.size w wc) := ⟨by rw [← hq_]; exact (by repeat (first | (with_reducible first | exact HB.out | apply below_alloc | apply pw_below_drewN | apply below_drew1 | refine below_set ?_ GE162.out) | exact HB.out))⟩; clear BK162 HB hq_; have BK162 := n0_; have HB := n1_; clear n0_ n1_)); have hcz37_0 : wc.cell? ⟨gb162, 0, none⟩ = some (.int .i64 x163000_1) := (blk_cell BK162.out 0).trans rfl; have hcz37_1 : wc.cell? ⟨gb162, 1, none⟩ = some (.int .i64 x163001_1) := (blk_cell BK162.out 1).trans rfl; have hcz37_2 : wc.cell? ⟨gb162, 2, none⟩ = some (.int .u64 x163002_1) := (blk_cell BK162.out 2).trans rfl; have hcz37_3 : wc.cell? ⟨gb162, 3, none⟩ = some (.int .u64 x163003_1) := (blk_cell BK162.out 3).trans rfl; have hfz37_0 := blk_frozen BK162.out 0; have hfz37_1 := blk_frozen BK162.out 1; have hfz37_2 := blk_frozen BK162.out 2; have hfz37_3 := blk_frozen BK162.out 3) | ((with_reducible refine gate_callee (f := 11) rfl ?_); refine goesL_ (some 79) rfl rfl Tryd.func11 (by kernel_rfl) rfl #[.agg #[.int .i64 x163000_1, .int .i64 x163001_1, .int .u64 x163002_1, .int .u64 x163003_1], .int .u64 t173] rfl (by (try simp only [List.map_toArray, List.map_cons, List.map_nil]); first | done | rfl | (simp only [List.length_drop, List.length_take]; rfl)) ?_; (with_reducible refine (roll_Roll_Hold.calls x163000_1 x163001_1 x163002_1 x163003_1 t173 t177 t178 t179 t180 _ A35.out).mono ?_); rintro e w38 ⟨rfl, hb⟩; refine ⟨_, rfl, ?_⟩; have n0_ := Aside0.mk (blk_below (g := gb162) (o := .cells #[.int .i64 x163000_1, .int .i64 x163001_1, .int .u64 x163002_1, .int .u64 x163003_1] 27 (0, 0)) (by (with_reducible repeat (first | refine blk_drewN ?_ _ | refine blk_drew ?_ | refine blk_alloc ?_ _)); exact BK162.out) hb); have n1_ := Aside0.mk (below_step (by repeat (first | (with_reducible first | exact HB.out | apply below_alloc | apply pw_below_drewN | apply below_drew1 | refine below_set ?_ GE162.out) | exact HB.out)) hb); clear BK162; clear HB; have BK162 := n0_; have HB := n1_; clear n0_ n1_; (try clear hb); (try clear hb2); (try clear hk); (try clear hi); have hcz39_0 : w38.cell? ⟨gb162, 0, none⟩ = some (.int .i64 x163000_1) := (blk_cell BK162.out 0).trans rfl; have hcz39_1 : w38.cell? ⟨gb162, 1, none⟩ = some (.int .i64 x163001_1) := (blk_cell BK162.out 1).trans rfl; have hcz39_2 : w38.cell? ⟨gb162, 2, none⟩ = some (.int .u64 x163002_1) := (blk_cell BK162.out 2).trans rfl; have hcz39_3 : w38.cell? ⟨gb162, 3, none⟩ = some (.int .u64 x163003_1) := (blk_cell BK162.out 3).trans rfl; have hfz39_0 := blk_frozen BK162.out 0; have hfz39_1 := blk_frozen BK162.out 1; have hfz39_2 := blk_frozen BK162.out 2; have hfz39_3 := blk_frozen BK162.out 3))
             (try simp only [Act.put, List.setIfInBounds_toArray, List.set_cons_zero, List.set_cons_succ])
             go_cut [90] (fun v90 wc => ∃ (kq : Nat) (x90_35 : Bool), v90 = .bool x90_35 ∧ Aside0 (berthinglaw21_RollEnds.j5 kq (wrap64 (1 + (Go.bits .and .i64 a0 7))) (wrap64 (1 + (Go.bits .and .i64 a1 63))) l2 t176 x9_1 x10_1 x90_35 t177 t178 t179 t180 = some r) ∧ Aside0 (kq ≤ kj25) ∧ Aside0 (wc.heap[gb162]? = some (.cells #[.int .i64 t177, .int .i64 t178, .int .u64 t179, .int .u64 t180] 27 (0, 0))) ∧ Aside0 (Below w.heap.size w wc))
             case first =>
              have H := HC36.out
              clear HC36
              replace H := Option.bind_eq_some_iff.mp H
              obtain ⟨t181, A400, H⟩ := H
              replace H : (if t181 > (wrap64 (1 + (Go.bits .and .i64 a0 7))) then (berthinglaw21_RollEnds.j5 kj25 (wrap64 (1 + (Go.bits .and .i64 a0 7))) (wrap64 (1 + (Go.bits .and .i64 a1 63))) l2 t176 x9_1 x10_1 true t177 t178 t179 t180) else ((roll_Roll_Right.f kj25 t177 t178 t179 t180 (wrap64 (1 + (Go.bits .and .i64 a1 63)))).bind fun t182 => (berthinglaw21_RollEnds.j5 kj25 (wrap64 (1 + (Go.bits .and .i64 a0 7))) (wrap64 (1 + (Go.bits .and .i64 a1 63))) l2 t176 x9_1 x10_1 (!t182) t177 t178 t179 t180))) = some r := H
              have A40 := Aside0.mk A400
              clear A400
              by_cases c41 : t181 > (wrap64 (1 + (Go.bits .and .i64 a0 7)))
              ·rw [if_pos c41] at H
               have c41b0 : decide ((wrap64 (1 + (Go.bits .and .i64 a0 7))) < t181) = true := decide_eq_true c41
               clear c41
               (first | rw [c41b0] | (simp only [i64_w, i32_w]; rw [c41b0]) | skip)
               have H' := Aside0.mk H
               clear H
               have hcz42_0 : w38.cell? ⟨gb162, 0, none⟩ = some (.int .i64 x163000_1) := (blk_cell BK162.out 0).trans rfl
               have hcz42_1 : w38.cell? ⟨gb162, 1, none⟩ = some (.int .i64 x163001_1) := (blk_cell BK162.out 1).trans rfl
               have hcz42_2 : w38.cell? ⟨gb162, 2, none⟩ = some (.int .u64 x163002_1) := (blk_cell BK162.out 2).trans rfl
               have hcz42_3 : w38.cell? ⟨gb162, 3, none⟩ = some (.int .u64 x163003_1) := (blk_cell BK162.out 3).trans rfl
               have hfz42_0 := blk_frozen BK162.out 0
               have hfz42_1 := blk_frozen BK162.out 1
               have hfz42_2 := blk_frozen BK162.out 2
               have hfz42_3 := blk_frozen BK162.out 3
               go_wp2_with (first | ((with_reducible refine gate_callee (f := 12) rfl ?_); refine goesL_ (some 82) rfl rfl Tryd.func12 (by kernel_rfl) rfl #[.int .u64 t180] rfl (by (try simp only [List.map_toArray, List.map_cons, List.map_nil]); first | done | rfl | (simp only [List.length_drop, List.length_take]; rfl)) ?_; (with_reducible refine (bits_Set_Len.calls t180 t181 _ A40.out).mono ?_); rintro e w' ⟨rfl, ⟨nd, rfl⟩⟩; refine ⟨_, rfl, ?_⟩))
               go_meet
               case rel => exact ⟨_, (true), (by first | rfl | (simp; done) | (simp [*]; done)), H', ⟨by have := HK1.out; have := HJ5.out; have := HJ12.out; have := HJ19.out; have := HJ25.out; first | omega | exact Nat.le_refl _⟩, ⟨by (with_reducible repeat (first | refine blk_drewN ?_ _ | refine blk_drew ?_ | refine blk_alloc ?_ _)); refine blk_put (cs := #[.int .i64 t177, .int .i64 t178, .int .u64 t179, .int .u64 x163003_1]) ?_ 3 _ rfl; (with_reducible repeat (first | refine blk_drewN ?_ _ | refine blk_drew ?_ | refine blk_alloc ?_ _)); refine blk_put (cs := #[.int .i64 t177, .int .i64 t178, .int .u64 x163002_1, .int .u64 x163003_1]) ?_ 2 _ rfl; (with_reducible repeat (first | refine blk_drewN ?_ _ | refine blk_drew ?_ | refine blk_alloc ?_ _)); refine blk_put (cs := #[.int .i64 t177, .int .i64 x163001_1, .int .u64 x163002_1, .int .u64 x163003_1]) ?_ 1 _ rfl; (with_reducible repeat (first | refine blk_drewN ?_ _ | refine blk_drew ?_ | refine blk_alloc ?_ _)); refine blk_put (cs := #[.int .i64 x163000_1, .int .i64 x163001_1, .int .u64 x163002_1, .int .u64 x163003_1]) ?_ 0 _ rfl; (with_reducible repeat (first | refine blk_drewN ?_ _ | refine blk_drew ?_ | refine blk_alloc ?_ _)); exact BK162.out⟩, ⟨by repeat (first | (with_reducible first | exact HB.out | apply below_alloc | apply pw_below_drewN | apply below_drew1 | refine below_set ?_ GE162.out) | exact HB.out)⟩⟩
              ·rw [if_neg c41] at H
               have c41b0 : decide ((wrap64 (1 + (Go.bits .and .i64 a0 7))) < t181) = false := decide_eq_false c41
               clear c41
               (first | rw [c41b0] | (simp only [i64_w, i32_w]; rw [c41b0]) | skip)
               replace H := Option.bind_eq_some_iff.mp H
               obtain ⟨t182, A430, H⟩ := H
               replace H : (berthinglaw21_RollEnds.j5 kj25 (wrap64 (1 + (Go.bits .and .i64 a0 7))) (wrap64 (1 + (Go.bits .and .i64 a1 63))) l2 t176 x9_1 x10_1 (!t182) t177 t178 t179 t180) = some r := H
               have A43 := Aside0.mk A430
               clear A430
               have H' := Aside0.mk H
               clear H
               have hcz44_0 : w38.cell? ⟨gb162, 0, none⟩ = some (.int .i64 x163000_1) := (blk_cell BK162.out 0).trans rfl
               have hcz44_1 : w38.cell? ⟨gb162, 1, none⟩ = some (.int .i64 x163001_1) := (blk_cell BK162.out 1).trans rfl
               have hcz44_2 : w38.cell? ⟨gb162, 2, none⟩ = some (.int .u64 x163002_1) := (blk_cell BK162.out 2).trans rfl
               have hcz44_3 : w38.cell? ⟨gb162, 3, none⟩ = some (.int .u64 x163003_1) := (blk_cell BK162.out 3).trans rfl
               have hfz44_0 := blk_frozen BK162.out 0
               have hfz44_1 := blk_frozen BK162.out 1
               have hfz44_2 := blk_frozen BK162.out 2
               have hfz44_3 := blk_frozen BK162.out 3
               go_wp2_with (first | ((with_reducible refine gate_callee (f := 12) rfl ?_); refine goesL_ (some 82) rfl rfl Tryd.func12 (by kernel_rfl) rfl #[.int .u64 t180] rfl (by (try simp only [List.map_toArray, List.map_cons, List.map_nil]); first | done | rfl | (simp only [List.length_drop, List.length_take]; rfl)) ?_; (with_reducible refine (bits_Set_Len.calls t180 t181 _ A40.out).mono ?_); rintro e w' ⟨rfl, ⟨nd, rfl⟩⟩; refine ⟨_, rfl, ?_⟩) | (go_at_call 13; (with_reducible refine (roll_Roll_Right.calls kj25 t177 t178 t179 t180 (wrap64 (1 + (Go.bits .and .i64 a1 63))) t182 _ A43.out).mono ?_); rintro e w45 ⟨rfl, hb⟩; have n0_ := Aside0.mk (blk_below (g := gb162) (o := .cells #[.int .i64 t177, .int .i64 t178, .int .u64 t179, .int .u64 t180] 27 (0, 0)) (by (with_reducible repeat (first | refine blk_drewN ?_ _ | refine blk_drew ?_ | refine blk_alloc ?_ _)); refine blk_put (cs := #[.int .i64 t177, .int .i64 t178, .int .u64 t179, .int .u64 x163003_1]) ?_ 3 _ rfl; (with_reducible repeat (first | refine blk_drewN ?_ _ | refine blk_drew ?_ | refine blk_alloc ?_ _)); refine blk_put (cs := #[.int .i64 t177, .int .i64 t178, .int .u64 x163002_1, .int .u64 x163003_1]) ?_ 2 _ rfl; (with_reducible repeat (first | refine blk_drewN ?_ _ | refine blk_drew ?_ | refine blk_alloc ?_ _)); refine blk_put (cs := #[.int .i64 t177, .int .i64 x163001_1, .int .u64 x163002_1, .int .u64 x163003_1]) ?_ 1 _ rfl; (with_reducible repeat (first | refine blk_drewN ?_ _ | refine blk_drew ?_ | refine blk_alloc ?_ _)); refine blk_put (cs := #[.int .i64 x163000_1, .int .i64 x163001_1, .int .u64 x163002_1, .int .u64 x163003_1]) ?_ 0 _ rfl; (with_reducible repeat (first | refine blk_drewN ?_ _ | refine blk_drew ?_ | refine blk_alloc ?_ _)); exact BK162.out) hb); have n1_ := Aside0.mk (below_step (by repeat (first | (with_reducible first | exact HB.out | apply below_alloc | apply pw_below_drewN | apply below_drew1 | refine below_set ?_ GE162.out) | exact HB.out)) hb); clear BK162; clear HB; have BK162 := n0_; have HB := n1_; clear n0_ n1_; (try clear hb); (try clear hb2); (try clear hk); (try clear hi)))
               go_meet
               case rel => exact ⟨_, (!t182), (by first | rfl | (simp; done) | (simp [*]; done)), H', ⟨by have := HK1.out; have := HJ5.out; have := HJ12.out; have := HJ19.out; have := HJ25.out; first | omega | exact Nat.le_refl _⟩, ⟨by (with_reducible repeat (first | refine blk_drewN ?_ _ | refine blk_drew ?_ | refine blk_alloc ?_ _)); exact BK162.out⟩, ⟨by repeat (first | (with_reducible first | exact HB.out | apply below_alloc | apply pw_below_drewN | apply below_drew1 | refine below_set ?_ GE162.out) | exact HB.out)⟩⟩
             case rest =>
              clear HC36
              try clear c1
              try clear p1
              try clear q1
              try clear hx1
              try clear c2
              try clear p2
              try clear c3
              try clear c4
              try clear c6
              try clear p6
              try clear c7
              try clear c7b0
              try clear c8
              try clear c9
              try clear c10
              try clear c11
              try clear c12
              try clear c14
              try clear c14b0
              try clear c15
              try clear c15b0
              try clear p16
              try clear q16
              try clear hx16
              try clear p17
              try clear q17
              try clear hx17
              try clear c21
              try clear c22
              try clear c22b0
              try clear c23
              try clear c23b0
              try clear c29
              try clear c29b0
              try clear c29b1
              try clear c31
              try clear c31b0
              try clear c31b1
              try clear c33
              try clear c41
              try clear c41b0
              try clear hcz27_0
              try clear hcz27_1
              try clear hcz27_2
              try clear hcz27_3
              try clear hcz37_0
              try clear hcz37_1
              try clear hcz37_2
              try clear hcz37_3
              try clear hcz39_0
              try clear hcz39_1
              try clear hcz39_2
              try clear hcz39_3
              try clear hcz42_0
              try clear hcz42_1
              try clear hcz42_2
              try clear hcz42_3
              try clear hcz44_0
              try clear hcz44_1
              try clear hcz44_2
              try clear hcz44_3
              try clear hcz5_0
              try clear hcz5_1
              try clear hcz5_2
              try clear hcz5_3
              try clear hcz9_0
              try clear hcz9_1
              try clear hcz9_2
              try clear hcz9_3
              try clear hfz27_0
              try clear hfz27_1
              try clear hfz27_2
              try clear hfz27_3
              try clear hfz37_0
              try clear hfz37_1
              try clear hfz37_2
              try clear hfz37_3
              try clear hfz39_0
              try clear hfz39_1
              try clear hfz39_2
              try clear hfz39_3
              try clear hfz42_0
              try clear hfz42_1
              try clear hfz42_2
              try clear hfz42_3
              try clear hfz44_0
              try clear hfz44_1
              try clear hfz44_2
              try clear hfz44_3
              try clear hfz5_0
              try clear hfz5_1
              try clear hfz5_2
              try clear hfz5_3
              try clear hfz9_0
              try clear hfz9_1
              try clear hfz9_2
              try clear hfz9_3
              try clear hx168_0
              try clear hx171_0
              try clear p1
              try clear p16
              try clear p168
              try clear p17
              try clear p171
              try clear p2
              try clear p6
              try clear q1
              try clear q16
              try clear q168
              try clear q17
              try clear q171
              obtain ⟨kq, x90_35, rfl, HA, HJ35, BK162, HB⟩ := hcut
              cases kq with
              | zero => exact absurd HA.out (by simp [berthinglaw21_RollEnds.j5])
              | succ kj35 =>
               have H := HA.out
               clear HA
               simp only [berthinglaw21_RollEnds.j5] at H
               by_cases c46 : x90_35 = true
               ·subst c46
                have H1 : (none) = some r := by rw [if_pos rfl] at H; exact H
                clear H
                have H := H1
                clear H1
                exact absurd H (by simp)
               ·replace c46 := Bool.eq_false_iff.mpr c46
                subst c46
                have H1 : (berthinglaw21_RollEnds.l1 kj35 (wrap64 (1 + (Go.bits .and .i64 a0 7))) (wrap64 (1 + (Go.bits .and .i64 a1 63))) l2 t176 x9_1 x10_1 0 t177 t178 t179 t180) = some r := by rw [if_neg (show ¬ (false = true) by decide)] at H; exact H
                clear H
                have H := H1
                clear H1
                have H' := Aside0.mk H
                clear H
                go_wp2
                go_loopg [13] kj35 (fun kq v13 w' => ∃ (x13_7 : Int) (x163000_7 : Int) (x163001_7 : Int) (x163002_7 : Int) (x163003_7 : Int), v13 = .int .i64 x13_7 ∧ Aside0 (berthinglaw21_RollEnds.l1 kq (wrap64 (1 + (Go.bits .and .i64 a0 7))) (wrap64 (1 + (Go.bits .and .i64 a1 63))) l2 t176 x9_1 x10_1 x13_7 x163000_7 x163001_7 x163002_7 x163003_7 = some r) ∧ Aside0 (kq ≤ kj35) ∧ Aside0 (w'.heap[gb162]? = some (.cells #[.int .i64 x163000_7, .int .i64 x163001_7, .int .u64 x163002_7, .int .u64 x163003_7] 27 (0, 0))) ∧ Aside0 (Below w.heap.size w w'))
                case atStart => exact ⟨(0), (t177), (t178), (t179), (t180), (by first | rfl | (simp; done) | (simp [*]; done)), H', ⟨Nat.le_refl _⟩, ⟨by (with_reducible repeat (first | refine blk_drewN ?_ _ | refine blk_drew ?_ | refine blk_alloc ?_ _)); exact BK162.out⟩, ⟨by repeat (first | (with_reducible first | exact HB.out | apply below_alloc | apply pw_below_drewN | apply below_drew1 | refine below_set ?_ GE162.out) | exact HB.out)⟩⟩
                case round =>
                 clear H'
                 try clear c1
                 try clear p1
                 try clear q1
                 try clear hx1
                 try clear c2
                 try clear p2
                 try clear c3
                 try clear c4
                 try clear c6
                 try clear p6
                 try clear c7
                 try clear c7b0
                 try clear c8
                 try clear c9
                 try clear c10
                 try clear c11
                 try clear c12
                 try clear c14
                 try clear c14b0
                 try clear c15
                 try clear c15b0
                 try clear p16
                 try clear q16
                 try clear hx16
                 try clear p17
                 try clear q17
                 try clear hx17
                 try clear c21
                 try clear c22
                 try clear c22b0
                 try clear c23
                 try clear c23b0
                 try clear c29
                 try clear c29b0
                 try clear c29b1
                 try clear c31
                 try clear c31b0
                 try clear c31b1
                 try clear c33
                 try clear c41
                 try clear c41b0
                 try clear c46
                 try clear hcz27_0
                 try clear hcz27_1
                 try clear hcz27_2
                 try clear hcz27_3
                 try clear hcz37_0
                 try clear hcz37_1
                 try clear hcz37_2
                 try clear hcz37_3
                 try clear hcz39_0
                 try clear hcz39_1
                 try clear hcz39_2
                 try clear hcz39_3
                 try clear hcz42_0
                 try clear hcz42_1
                 try clear hcz42_2
                 try clear hcz42_3
                 try clear hcz44_0
                 try clear hcz44_1
                 try clear hcz44_2
                 try clear hcz44_3
                 try clear hcz5_0
                 try clear hcz5_1
                 try clear hcz5_2
                 try clear hcz5_3
                 try clear hcz9_0
                 try clear hcz9_1
                 try clear hcz9_2
                 try clear hcz9_3
                 try clear hfz27_0
                 try clear hfz27_1
                 try clear hfz27_2
                 try clear hfz27_3
                 try clear hfz37_0
                 try clear hfz37_1
                 try clear hfz37_2
                 try clear hfz37_3
                 try clear hfz39_0
                 try clear hfz39_1
                 try clear hfz39_2
                 try clear hfz39_3
                 try clear hfz42_0
                 try clear hfz42_1
                 try clear hfz42_2
                 try clear hfz42_3
                 try clear hfz44_0
                 try clear hfz44_1
                 try clear hfz44_2
                 try clear hfz44_3
                 try clear hfz5_0
                 try clear hfz5_1
                 try clear hfz5_2
                 try clear hfz5_3
                 try clear hfz9_0
                 try clear hfz9_1
                 try clear hfz9_2
                 try clear hfz9_3
                 try clear hx168_0
                 try clear hx171_0
                 try clear p1
                 try clear p16
                 try clear p168
                 try clear p17
                 try clear p171
                 try clear p2
                 try clear p6
                 try clear q1
                 try clear q16
                 try clear q168
                 try clear q17
                 try clear q171
                 obtain ⟨x13_7, x163000_7, x163001_7, x163002_7, x163003_7, rfl, HA, HK7, BK162, HB⟩ := hrel
                 cases gk with
                 | zero => exact absurd HA.out (by simp [berthinglaw21_RollEnds.l1])
                 | succ k7 =>
                  have H := HA.out
                  clear HA
                  simp only [berthinglaw21_RollEnds.l1] at H
                  by_cases c47 : x13_7 < 64
                  ·rw [if_pos c47] at H
                   have c47b0 : decide (x13_7 < 64) = true := decide_eq_true c47
                   clear c47
                   replace H := Option.bind_eq_some_iff.mp H
                   obtain ⟨⟨t183, t184, t185, t186⟩, A480, H⟩ := H
                   replace H : (berthinglaw21_RollEnds.l1 k7 (wrap64 (1 + (Go.bits .and .i64 a0 7))) (wrap64 (1 + (Go.bits .and .i64 a1 63))) l2 t176 x9_1 x10_1 (wrap64 (x13_7 + 1)) t183 t184 t185 t186) = some r := H
                   have A48 := Aside0.mk A480
                   clear A480
                   have H' := Aside0.mk H
                   clear H
                   have hcz49_0 : wr.cell? ⟨gb162, 0, none⟩ = some (.int .i64 x163000_7) := (blk_cell BK162.out 0).trans rfl
                   have hcz49_1 : wr.cell? ⟨gb162, 1, none⟩ = some (.int .i64 x163001_7) := (blk_cell BK162.out 1).trans rfl
                   have hcz49_2 : wr.cell? ⟨gb162, 2, none⟩ = some (.int .u64 x163002_7) := (blk_cell BK162.out 2).trans rfl
                   have hcz49_3 : wr.cell? ⟨gb162, 3, none⟩ = some (.int .u64 x163003_7) := (blk_cell BK162.out 3).trans rfl
                   have hfz49_0 := blk_frozen BK162.out 0
                   have hfz49_1 := blk_frozen BK162.out 1
                   have hfz49_2 := blk_frozen BK162.out 2
                   have hfz49_3 := blk_frozen BK162.out 3
                   go_wp2_with (first | ((with_reducible refine gate_callee (f := 14) rfl ?_); refine goesL_ (some 97) rfl rfl Tryd.func14 (by kernel_rfl) rfl #[.agg #[.int .i64 x163000_7, .int .i64 x163001_7, .int .u64 x163002_7, .int .u64 x163003_7], .int .i64 x13_7] rfl (by (try simp only [List.map_toArray, List.map_cons, List.map_nil]); first | done | rfl | (simp only [List.length_drop, List.length_take]; rfl)) ?_; (with_reducible refine (roll_Roll_Back.calls x163000_7 x163001_7 x163002_7 x163003_7 x13_7 t183 t184 t185 t186 _ A48.out).mono ?_); rintro e w50 ⟨rfl, hb⟩; refine ⟨_, rfl, ?_⟩; have n0_ := Aside0.mk (blk_below (g := gb162) (o := .cells #[.int .i64 x163000_7, .int .i64 x163001_7, .int .u64 x163002_7, .int .u64 x163003_7] 27 (0, 0)) (by (with_reducible repeat (first | refine blk_drewN ?_ _ | refine blk_drew ?_ | refine blk_alloc ?_ _)); exact BK162.out) hb); have n1_ := Aside0.mk (below_step (by repeat (first | (with_reducible first | exact HB.out | apply below_alloc | apply pw_below_drewN | apply below_drew1 | refine below_set ?_ GE162.out) | exact HB.out)) hb); clear BK162; clear HB; have BK162 := n0_; have HB := n1_; clear n0_ n1_; (try clear hb); (try clear hb2); (try clear hk); (try clear hi); have hcz51_0 : w50.cell? ⟨gb162, 0, none⟩ = some (.int .i64 x163000_7) := (blk_cell BK162.out 0).trans rfl; have hcz51_1 : w50.cell? ⟨gb162, 1, none⟩ = some (.int .i64 x163001_7) := (blk_cell BK162.out 1).trans rfl; have hcz51_2 : w50.cell? ⟨gb162, 2, none⟩ = some (.int .u64 x163002_7) := (blk_cell BK162.out 2).trans rfl; have hcz51_3 : w50.cell? ⟨gb162, 3, none⟩ = some (.int .u64 x163003_7) := (blk_cell BK162.out 3).trans rfl; have hfz51_0 := blk_frozen BK162.out 0; have hfz51_1 := blk_frozen BK162.out 1; have hfz51_2 := blk_frozen BK162.out 2; have hfz51_3 := blk_frozen BK162.out 3))
                   go_roundg k7
                   case measure => have := HK1.out; have := HJ5.out; have := HJ12.out; have := HJ19.out; have := HJ25.out; have := HJ35.out; have := HK7.out; omega
                   case rel => exact ⟨(wrap64 (x13_7 + 1)), (t183), (t184), (t185), (t186), (by first | rfl | (simp; done) | (simp [*]; done)), H', ⟨by have := HK1.out; have := HJ5.out; have := HJ12.out; have := HJ19.out; have := HJ25.out; have := HJ35.out; have := HK7.out; omega⟩, ⟨by (with_reducible repeat (first | refine blk_drewN ?_ _ | refine blk_drew ?_ | refine blk_alloc ?_ _)); refine blk_put (cs := #[.int .i64 t183, .int .i64 t184, .int .u64 t185, .int .u64 x163003_7]) ?_ 3 _ rfl; (with_reducible repeat (first | refine blk_drewN ?_ _ | refine blk_drew ?_ | refine blk_alloc ?_ _)); refine blk_put (cs := #[.int .i64 t183, .int .i64 t184, .int .u64 x163002_7, .int .u64 x163003_7]) ?_ 2 _ rfl; (with_reducible repeat (first | refine blk_drewN ?_ _ | refine blk_drew ?_ | refine blk_alloc ?_ _)); refine blk_put (cs := #[.int .i64 t183, .int .i64 x163001_7, .int .u64 x163002_7, .int .u64 x163003_7]) ?_ 1 _ rfl; (with_reducible repeat (first | refine blk_drewN ?_ _ | refine blk_drew ?_ | refine blk_alloc ?_ _)); refine blk_put (cs := #[.int .i64 x163000_7, .int .i64 x163001_7, .int .u64 x163002_7, .int .u64 x163003_7]) ?_ 0 _ rfl; (with_reducible repeat (first | refine blk_drewN ?_ _ | refine blk_drew ?_ | refine blk_alloc ?_ _)); exact BK162.out⟩, ⟨by repeat (first | (with_reducible first | exact HB.out | apply below_alloc | apply pw_below_drewN | apply below_drew1 | refine below_set ?_ GE162.out) | exact HB.out)⟩⟩
                  ·rw [if_neg c47] at H
                   have c47b0 : decide (x13_7 < 64) = false := decide_eq_false c47
                   clear c47
                   by_cases c52 : x163003_7 = 0
                   ·rw [if_pos c52] at H
                    have c52b0 : (x163003_7 == 0) = true := beq_iff_eq.mpr c52
                    have c52b1 : (x163003_7 != 0) = false := bne_eq_false_iff_eq.mpr c52
                    clear c52
                    replace H := Option.bind_eq_some_iff.mp H
                    obtain ⟨t187, A530, H⟩ := H
                    replace H : (if t187 = true then (berthinglaw21_RollEnds.l0 k7 (wrap64 (1 + (Go.bits .and .i64 a0 7))) (wrap64 (1 + (Go.bits .and .i64 a1 63))) l2 t176 (wrap64 (x9_1 + 1)) (wrap64 (x10_1 + 1)) x163000_7 x163001_7 x163002_7 x163003_7) else (none)) = some r := H
                    have A53 := Aside0.mk A530
                    clear A530
                    by_cases c54 : t187 = true
                    ·subst c54
                     have H1 : (berthinglaw21_RollEnds.l0 k7 (wrap64 (1 + (Go.bits .and .i64 a0 7))) (wrap64 (1 + (Go.bits .and .i64 a1 63))) l2 t176 (wrap64 (x9_1 + 1)) (wrap64 (x10_1 + 1)) x163000_7 x163001_7 x163002_7 x163003_7) = some r := by rw [if_pos rfl] at H; exact H
                     clear H
                     have H := H1
                     clear H1
                     have H' := Aside0.mk H
                     clear H
                     have hcz55_0 : wr.cell? ⟨gb162, 0, none⟩ = some (.int .i64 x163000_7) := (blk_cell BK162.out 0).trans rfl
                     have hcz55_1 : wr.cell? ⟨gb162, 1, none⟩ = some (.int .i64 x163001_7) := (blk_cell BK162.out 1).trans rfl
                     have hcz55_2 : wr.cell? ⟨gb162, 2, none⟩ = some (.int .u64 x163002_7) := (blk_cell BK162.out 2).trans rfl
                     have hcz55_3 : wr.cell? ⟨gb162, 3, none⟩ = some (.int .u64 x163003_7) := (blk_cell BK162.out 3).trans rfl
                     have hfz55_0 := blk_frozen BK162.out 0
                     have hfz55_1 := blk_frozen BK162.out 1
                     have hfz55_2 := blk_frozen BK162.out 2
                     have hfz55_3 := blk_frozen BK162.out 3
                     go_wp2_with (first | (go_at_call 13; (with_reducible refine (roll_Roll_Right.calls k7 x163000_7 x163001_7 x163002_7 x163003_7 (wrap64 (1 + (Go.bits .and .i64 a1 63))) true _ A53.out).mono ?_); rintro e w56 ⟨rfl, hb⟩; have n0_ := Aside0.mk (blk_below (g := gb162) (o := .cells #[.int .i64 x163000_7, .int .i64 x163001_7, .int .u64 x163002_7, .int .u64 x163003_7] 27 (0, 0)) (by (with_reducible repeat (first | refine blk_drewN ?_ _ | refine blk_drew ?_ | refine blk_alloc ?_ _)); exact BK162.out) hb); have n1_ := Aside0.mk (below_step (by repeat (first | (with_reducible first | exact HB.out | apply below_alloc | apply pw_below_drewN | apply below_drew1 | refine below_set ?_ GE162.out) | exact HB.out)) hb); clear BK162; clear HB; have BK162 := n0_; have HB := n1_; clear n0_ n1_; (try clear hb); (try clear hb2); (try clear hk); (try clear hi)))
                     go_roundg k7
                     case measure => have := HK1.out; have := HJ5.out; have := HJ12.out; have := HJ19.out; have := HJ25.out; have := HJ35.out; have := HK7.out; omega
                     case rel => exact ⟨(t176), (wrap64 (x9_1 + 1)), (wrap64 (x10_1 + 1)), (x163000_7), (x163001_7), (x163002_7), (x163003_7), (by first | rfl | (simp; done) | (simp [*]; done)), (by first | rfl | (simp; done) | (simp [*]; done)), (by first | rfl | (simp; done) | (simp [*]; done)), H', ⟨by have := HK1.out; have := HJ5.out; have := HJ12.out; have := HJ19.out; have := HJ25.out; have := HJ35.out; have := HK7.out; omega⟩, ⟨by (with_reducible repeat (first | refine blk_drewN ?_ _ | refine blk_drew ?_ | refine blk_alloc ?_ _)); exact BK162.out⟩, ⟨by repeat (first | (with_reducible first | exact HB.out | apply below_alloc | apply pw_below_drewN | apply below_drew1 | refine below_set ?_ GE162.out) | exact HB.out)⟩⟩
                    ·replace c54 := Bool.eq_false_iff.mpr c54
                     subst c54
                     have H1 : (none) = some r := by rw [if_neg (show ¬ (false = true) by decide)] at H; exact H
                     clear H
                     have H := H1
                     clear H1
                     exact absurd H (by simp)
                   ·rw [if_neg c52] at H
                    exact absurd H (by simp)
     ·replace c11 := Bool.eq_false_iff.mpr c11
      subst c11
      have H1 : ((roll_Roll_Over.f x163000_1 x163001_1 x163002_1 x163003_1 (wrap64 (1 + (Go.bits .and .i64 a1 63)))).bind fun t164 => (if t164 = true then (if x9_1 ≤ (wrap64 (1 + (Go.bits .and .i64 a1 63))) then ((bits_First.f (wrap64 (1 + (Go.bits .and .i64 a1 63)))).bind fun t165 => (if x163002_1 = t165 then ((berthinglaw21_one.f kj5).bind fun t166 => (some t166)) else (none))) else (none)) else (none))) = some r := by rw [if_neg (show ¬ (false = true) by decide)] at H; exact H
      clear H
      have H := H1
      clear H1
      replace H := Option.bind_eq_some_iff.mp H
      obtain ⟨t164, A570, H⟩ := H
      replace H : (if t164 = true then (if x9_1 ≤ (wrap64 (1 + (Go.bits .and .i64 a1 63))) then ((bits_First.f (wrap64 (1 + (Go.bits .and .i64 a1 63)))).bind fun t165 => (if x163002_1 = t165 then ((berthinglaw21_one.f kj5).bind fun t166 => (some t166)) else (none))) else (none)) else (none)) = some r := H
      have A57 := Aside0.mk A570
      clear A570
      by_cases c58 : t164 = true
      ·subst c58
       have H1 : (if x9_1 ≤ (wrap64 (1 + (Go.bits .and .i64 a1 63))) then ((bits_First.f (wrap64 (1 + (Go.bits .and .i64 a1 63)))).bind fun t165 => (if x163002_1 = t165 then ((berthinglaw21_one.f kj5).bind fun t166 => (some t166)) else (none))) else (none)) = some r := by rw [if_pos rfl] at H; exact H
       clear H
       have H := H1
       clear H1
       by_cases c59 : x9_1 ≤ (wrap64 (1 + (Go.bits .and .i64 a1 63)))
       ·rw [if_pos c59] at H
        have c59b0 : decide (x9_1 ≤ (wrap64 (1 + (Go.bits .and .i64 a1 63)))) = true := decide_eq_true c59
        clear c59
        replace H := Option.bind_eq_some_iff.mp H
        obtain ⟨t165, A600, H⟩ := H
        replace H : (if x163002_1 = t165 then ((berthinglaw21_one.f kj5).bind fun t166 => (some t166)) else (none)) = some r := H
        have A60 := Aside0.mk A600
        clear A600
        by_cases c61 : x163002_1 = t165
        ·rw [if_pos c61] at H
         have c61b0 : (x163002_1 == t165) = true := beq_iff_eq.mpr c61
         have c61b1 : (x163002_1 != t165) = false := bne_eq_false_iff_eq.mpr c61
         clear c61
         replace H := Option.bind_eq_some_iff.mp H
         obtain ⟨t166, A620, H⟩ := H
         replace H : (some t166) = some r := H
         have A62 := Aside0.mk A620
         clear A620
         obtain rfl := Option.some.inj H
         try go_wp2
         have n0_ := Aside0.mk (blk_drew BK162.out)
         have n1_ := Aside0.mk (below_drew1 HB.out)
         clear BK162
         clear HB
         have BK162 := n0_
         have HB := n1_
         clear n0_ n1_
         refine start_ (n := 19) (S := fun w' => w'.cell? ⟨gb162, 0, none⟩ = some (.int .i64 x163000_1) ∧ w'.cell? ⟨gb162, 1, none⟩ = some (.int .i64 x163001_1) ∧ w'.cell? ⟨gb162, 2, none⟩ = some (.int .u64 x163002_1) ∧ w'.cell? ⟨gb162, 3, none⟩ = some (.int .u64 x163003_1)) (ds := []) #[false, false, false, false, false, false, false, false, false, false, false, false, false, false, false, false, false, false, false] (by kernel_rfl) rfl rfl ⟨(blk_cell BK162.out 0).trans rfl, (blk_cell BK162.out 1).trans rfl, (blk_cell BK162.out 2).trans rfl, (blk_cell BK162.out 3).trans rfl⟩ (fun hHeld => ?_); refine with_tabW berthinglaw21_RollEnds.tab25 berthinglaw21_RollEnds.bits25 (fun HT_ HW_ => ?_)
         generalize wc.drew = w63 at BK162 HB hHeld ⊢
         refine pure_ (i := 1) (N := some 110) (v := ?_) (a' := ?_) #[false, true, false, false, false, false, false, false, false, false, false, false, false, false, false, false, false, false, false] rfl rfl (any_of HT_.out (by kernel_rfl)) (fun _ _ _ h => h) (Or.inl ⟨by rfl, ?_⟩) ?_ ?_
         rotate_left
         ·intro w'
          go_simp
          with_reducible rfl
         rotate_left
         ·simp only [Act.put, List.setIfInBounds_toArray, List.set_cons_zero, List.set_cons_succ, i64_w, i32_w]
          rfl
         refine take_ (i := 0) (N := some 109) (v := ?_) (a' := ?_) #[true, true, false, false, false, false, false, false, false, false, false, false, false, false, false, false, false, false, false] rfl rfl (take_ofW HT_.out HW_.out (by kernel_rfl)) (fun _ _ _ h => h) (Or.inl ⟨by rfl, ?_⟩) hHeld ?_ ?_
         rotate_left
         ·rintro w' ⟨s0, s1, s2, s3⟩
          go_simp
          with_reducible rfl
         rotate_left
         ·simp only [Act.put, List.setIfInBounds_toArray, List.set_cons_zero, List.set_cons_succ, i64_w, i32_w]
          rfl
         refine one_ (i := 2) (N := some 111) #[true, true, true, false, false, false, false, false, false, false, false, false, false, false, false, false, false, false, false] rfl rfl (one_of HT_.out (by kernel_rfl)) (by decide) (fun K hK => ?_)
         refine goes_ Tryd.func5 (by kernel_rfl) rfl #[.agg #[.int .i64 x163000_1, .int .i64 x163001_1, .int .u64 x163002_1, .int .u64 x163003_1], .int .i64 (wrap64 (1 + (Go.bits .and .i64 a1 63)))] (by rfl) rfl rfl (by (try simp only [List.map_toArray, List.map_cons, List.map_nil]); first | done | rfl | (simp only [List.length_drop, List.length_take]; rfl)) ?_
         with_reducible refine (roll_Roll_Over.calls x163000_1 x163001_1 x163002_1 x163003_1 (wrap64 (1 + (Go.bits .and .i64 a1 63))) true _ A57.out).mono ?_
         rintro e w64 ⟨rfl, hb⟩
         refine ⟨_, rfl, ?_⟩
         have n0_ := Aside0.mk (blk_below (g := gb162) (o := .cells #[.int .i64 x163000_1, .int .i64 x163001_1, .int .u64 x163002_1, .int .u64 x163003_1] 27 (0, 0)) (by (with_reducible repeat (first | refine blk_drewN ?_ _ | refine blk_drew ?_ | refine blk_alloc ?_ _)); exact BK162.out) hb)
         have n1_ := Aside0.mk (below_step (by repeat (first | (with_reducible first | exact HB.out | apply below_alloc | apply pw_below_drewN | apply below_drew1 | refine below_set ?_ GE162.out) | exact HB.out)) hb)
         clear BK162
         clear HB
         have BK162 := n0_
         have HB := n1_
         clear n0_ n1_
         (try clear hb)
         (try clear hb2)
         (try clear hk)
         (try clear hi)
         refine hK.out _ _ ⟨(blk_cell BK162.out 0).trans rfl, (blk_cell BK162.out 1).trans rfl, (blk_cell BK162.out 2).trans rfl, (blk_cell BK162.out 3).trans rfl⟩ (fun hHeld => ?_)
         clear hK K
         refine norm_ (a' := ?_) ?_ ?_
         rotate_left
         ·show Act.put _ (some 111) _ = _
          simp only [Act.put, List.setIfInBounds_toArray, List.set_cons_zero, List.set_cons_succ, i64_w, i32_w]
          rfl
         refine pure_ (i := 3) (N := some 112) (v := ?_) (a' := ?_) #[true, true, true, true, false, false, false, false, false, false, false, false, false, false, false, false, false, false, false] rfl rfl (any_of HT_.out (by kernel_rfl)) (fun _ _ _ h => h) (Or.inl ⟨by rfl, ?_⟩) ?_ ?_
         rotate_left
         ·intro w'
          go_simp
          with_reducible rfl
         rotate_left
         ·simp only [Act.put, List.setIfInBounds_toArray, List.set_cons_zero, List.set_cons_succ, i64_w, i32_w]
          rfl
         refine pure_ (i := 4) (N := some 113) (v := ?_) (a' := ?_) #[true, true, true, true, true, false, false, false, false, false, false, false, false, false, false, false, false, false, false] rfl rfl (any_of HT_.out (by kernel_rfl)) (fun _ _ _ h => h) (Or.inl ⟨by rfl, ?_⟩) ?_ ?_
         rotate_left
         ·intro w'
          go_simp
          with_reducible rfl
         rotate_left
         ·simp only [Act.put, List.setIfInBounds_toArray, List.set_cons_zero, List.set_cons_succ, i64_w, i32_w]
          rfl
         refine pure_ (i := 5) (N := some 114) (v := ?_) (a' := ?_) #[true, true, true, true, true, true, false, false, false, false, false, false, false, false, false, false, false, false, false] rfl rfl (any_of HT_.out (by kernel_rfl)) (fun _ _ _ h => h) (Or.inl ⟨by rfl, ?_⟩) ?_ ?_
         rotate_left
         ·intro w'
          go_simp
          with_reducible rfl
         rotate_left
         ·simp only [Act.put, List.setIfInBounds_toArray, List.set_cons_zero, List.set_cons_succ, i64_w, i32_w]
          rfl
         refine pure_ (i := 6) (N := some 115) (v := ?_) (a' := ?_) #[true, true, true, true, true, true, true, false, false, false, false, false, false, false, false, false, false, false, false] rfl rfl (any_of HT_.out (by kernel_rfl)) (fun _ _ _ h => h) (Or.inl ⟨by rfl, ?_⟩) ?_ ?_
         rotate_left
         ·intro w'
          go_simp
          with_reducible rfl
         rotate_left
         ·simp only [Act.put, List.setIfInBounds_toArray, List.set_cons_zero, List.set_cons_succ, i64_w, i32_w]
          rfl
         refine pure_ (i := 7) (N := some 116) (v := ?_) (a' := ?_) #[true, true, true, true, true, true, true, true, false, false, false, false, false, false, false, false, false, false, false] rfl rfl (any_of HT_.out (by kernel_rfl)) (fun _ _ _ h => h) (Or.inl ⟨by rfl, ?_⟩) ?_ ?_
         rotate_left
         ·intro w'
          go_simp
          with_reducible rfl
         rotate_left
         ·simp only [Act.put, List.setIfInBounds_toArray, List.set_cons_zero, List.set_cons_succ, i64_w, i32_w]
          rfl
         refine pure_ (i := 8) (N := some 117) (v := ?_) (a' := ?_) #[true, true, true, true, true, true, true, true, true, false, false, false, false, false, false, false, false, false, false] rfl rfl (any_of HT_.out (by kernel_rfl)) (fun _ _ _ h => h) (Or.inl ⟨by rfl, ?_⟩) ?_ ?_
         rotate_left
         ·intro w'
          go_simp
          with_reducible rfl
         rotate_left
         ·simp only [Act.put, List.setIfInBounds_toArray, List.set_cons_zero, List.set_cons_succ, i64_w, i32_w]
          rfl
         refine pure_ (i := 9) (N := some 118) (v := ?_) (a' := ?_) #[true, true, true, true, true, true, true, true, true, true, false, false, false, false, false, false, false, false, false] rfl rfl (any_of HT_.out (by kernel_rfl)) (fun _ _ _ h => h) (Or.inl ⟨by rfl, ?_⟩) ?_ ?_
         rotate_left
         ·intro w'
          go_simp
          with_reducible rfl
         rotate_left
         ·simp only [Act.put, List.setIfInBounds_toArray, List.set_cons_zero, List.set_cons_succ, i64_w, i32_w]
          rfl
         refine pure_ (i := 11) (N := some 120) (v := ?_) (a' := ?_) #[true, true, true, true, true, true, true, true, true, true, false, true, false, false, false, false, false, false, false] rfl rfl (any_of HT_.out (by kernel_rfl)) (fun _ _ _ h => h) (Or.inl ⟨by rfl, ?_⟩) ?_ ?_
         rotate_left
         ·intro w'
          go_simp
          with_reducible rfl
         rotate_left
         ·simp only [Act.put, List.setIfInBounds_toArray, List.set_cons_zero, List.set_cons_succ, i64_w, i32_w]
          rfl
         refine take_ (i := 10) (N := some 119) (v := ?_) (a' := ?_) #[true, true, true, true, true, true, true, true, true, true, true, true, false, false, false, false, false, false, false] rfl rfl (take_ofW HT_.out HW_.out (by kernel_rfl)) (fun _ _ _ h => h) (Or.inl ⟨by rfl, ?_⟩) hHeld ?_ ?_
         rotate_left
         ·rintro w' ⟨s0, s1, s2, s3⟩
          go_simp
          with_reducible rfl
         rotate_left
         ·simp only [Act.put, List.setIfInBounds_toArray, List.set_cons_zero, List.set_cons_succ, i64_w, i32_w]
          rfl
         refine one_ (i := 12) (N := some 121) #[true, true, true, true, true, true, true, true, true, true, true, true, true, false, false, false, false, false, false] rfl rfl (one_of HT_.out (by kernel_rfl)) (by decide) (fun K hK => ?_)
         refine goes_ Tryd.func6 (by kernel_rfl) rfl #[.int .i64 (wrap64 (1 + (Go.bits .and .i64 a1 63)))] (by rfl) rfl rfl (by (try simp only [List.map_toArray, List.map_cons, List.map_nil]); first | done | rfl | (simp only [List.length_drop, List.length_take]; rfl)) ?_
         with_reducible refine (bits_First.calls (wrap64 (1 + (Go.bits .and .i64 a1 63))) t165 _ A60.out).mono ?_
         rintro e w' ⟨rfl, ⟨nd, rfl⟩⟩
         refine ⟨_, rfl, ?_⟩
         refine hK.out _ _ ⟨(blk_cell BK162.out 0).trans rfl, (blk_cell BK162.out 1).trans rfl, (blk_cell BK162.out 2).trans rfl, (blk_cell BK162.out 3).trans rfl⟩ (fun hHeld => ?_)
         clear hK K
         refine norm_ (a' := ?_) ?_ ?_
         rotate_left
         ·show Act.put _ (some 121) _ = _
          simp only [Act.put, List.setIfInBounds_toArray, List.set_cons_zero, List.set_cons_succ, i64_w, i32_w]
          rfl
         refine pure_ (i := 13) (N := some 122) (v := ?_) (a' := ?_) #[true, true, true, true, true, true, true, true, true, true, true, true, true, true, false, false, false, false, false] rfl rfl (any_of HT_.out (by kernel_rfl)) (fun _ _ _ h => h) (Or.inl ⟨by rfl, ?_⟩) ?_ ?_
         rotate_left
         ·intro w'
          go_simp
          with_reducible rfl
         rotate_left
         ·simp only [Act.put, List.setIfInBounds_toArray, List.set_cons_zero, List.set_cons_succ, i64_w, i32_w]
          rfl
         refine pure_ (i := 14) (N := some 123) (v := ?_) (a' := ?_) #[true, true, true, true, true, true, true, true, true, true, true, true, true, true, true, false, false, false, false] rfl rfl (any_of HT_.out (by kernel_rfl)) (fun _ _ _ h => h) (Or.inl ⟨by rfl, ?_⟩) ?_ ?_
         rotate_left
         ·intro w'
          go_simp
          with_reducible rfl
         rotate_left
         ·simp only [Act.put, List.setIfInBounds_toArray, List.set_cons_zero, List.set_cons_succ, i64_w, i32_w]
          rfl
         refine pure_ (i := 15) (N := some 124) (v := ?_) (a' := ?_) #[true, true, true, true, true, true, true, true, true, true, true, true, true, true, true, true, false, false, false] rfl rfl (any_of HT_.out (by kernel_rfl)) (fun _ _ _ h => h) (Or.inl ⟨by rfl, ?_⟩) ?_ ?_
         rotate_left
         ·intro w'
          go_simp
          with_reducible rfl
         rotate_left
         ·simp only [Act.put, List.setIfInBounds_toArray, List.set_cons_zero, List.set_cons_succ, i64_w, i32_w]
          rfl
         refine one_ (i := 16) (N := some 125) #[true, true, true, true, true, true, true, true, true, true, true, true, true, true, true, true, true, false, false] rfl rfl (one_of HT_.out (by kernel_rfl)) (by decide) (fun K hK => ?_)
         refine goes_ Tryd.func15 (by kernel_rfl) rfl #[] (by rfl) rfl rfl (by (try simp only [List.map_toArray, List.map_cons, List.map_nil]); first | done | rfl | (simp only [List.length_drop, List.length_take]; rfl)) ?_
         with_reducible refine (berthinglaw21_one.calls kj5  t166 _ (RollNext.Tab.go (by repeat (first | (with_reducible first | exact HB.out | apply below_alloc | apply pw_below_drewN | apply below_drew1 | refine below_set ?_ GE162.out) | exact HB.out)) hT) A62.out).mono ?_
         rintro e w65 ⟨rfl, hb⟩
         refine ⟨_, rfl, ?_⟩
         have n0_ := Aside0.mk (blk_below (g := gb162) (o := .cells #[.int .i64 x163000_1, .int .i64 x163001_1, .int .u64 x163002_1, .int .u64 x163003_1] 27 (0, 0)) (by (with_reducible repeat (first | refine blk_drewN ?_ _ | refine blk_drew ?_ | refine blk_alloc ?_ _)); exact BK162.out) hb)
         have n1_ := Aside0.mk (below_step (by repeat (first | (with_reducible first | exact HB.out | apply below_alloc | apply pw_below_drewN | apply below_drew1 | refine below_set ?_ GE162.out) | exact HB.out)) hb)
         clear BK162
         clear HB
         have BK162 := n0_
         have HB := n1_
         clear n0_ n1_
         (try clear hb)
         (try clear hb2)
         (try clear hk)
         (try clear hi)
         refine hK.out _ _ ⟨(blk_cell BK162.out 0).trans rfl, (blk_cell BK162.out 1).trans rfl, (blk_cell BK162.out 2).trans rfl, (blk_cell BK162.out 3).trans rfl⟩ (fun hHeld => ?_)
         clear hK K
         refine norm_ (a' := ?_) ?_ ?_
         rotate_left
         ·show Act.put _ (some 125) _ = _
          simp only [Act.put, List.setIfInBounds_toArray, List.set_cons_zero, List.set_cons_succ, i64_w, i32_w]
          rfl
         refine pure_ (i := 17) (N := some 126) (v := ?_) (a' := ?_) #[true, true, true, true, true, true, true, true, true, true, true, true, true, true, true, true, true, true, false] rfl rfl (any_of HT_.out (by kernel_rfl)) (fun _ _ _ h => h) (Or.inl ⟨by rfl, ?_⟩) ?_ ?_
         rotate_left
         ·intro w'
          go_simp
          with_reducible rfl
         rotate_left
         ·simp only [Act.put, List.setIfInBounds_toArray, List.set_cons_zero, List.set_cons_succ, i64_w, i32_w]
          rfl
         refine pure_ (i := 18) (N := some 6) (v := ?_) (a' := ?_) #[true, true, true, true, true, true, true, true, true, true, true, true, true, true, true, true, true, true, true] rfl rfl (any_of HT_.out (by kernel_rfl)) (fun _ _ _ h => h) (Or.inl ⟨by rfl, ?_⟩) ?_ ?_
         rotate_left
         ·intro w'
          go_simp
          with_reducible rfl
         rotate_left
         ·simp only [Act.put, List.setIfInBounds_toArray, List.set_cons_zero, List.set_cons_succ, i64_w, i32_w]
          rfl
         refine done_ (done_of HT_.out (by kernel_rfl)) ?_
         try go_wp2
         go_ret
         exact ⟨by first | rfl | (simp [errW_none, errW_some] <;> rfl) | (simp [*, errW_none, errW_some] <;> rfl), by repeat (first | (with_reducible first | exact HB.out | apply below_alloc | apply pw_below_drewN | apply below_drew1 | refine below_set ?_ GE162.out) | exact HB.out)⟩
        ·rw [if_neg c61] at H
         exact absurd H (by simp)
       ·rw [if_neg c59] at H
        exact absurd H (by simp)
      ·replace c58 := Bool.eq_false_iff.mpr c58
       subst c58
       have H1 : (none) = some r := by rw [if_neg (show ¬ (false = true) by decide)] at H; exact H
       clear H
       have H := H1
       clear H1
       exact absurd H (by simp)

/-- THE ONE PURE STATEMENT of berthinglaw21_RollEnds: yours. -/
def berthinglaw21_RollEnds.Pure : Prop := ∀ (a0 : Int) (a1 : Int) (l2 : List Int), (Lit.int .i64 a0).wf = true → (Lit.int .i64 a1).wf = true → l2.length ≤ maxLen → l2.length * 8 ≤ 140737488351232 → (∀ x ∈ l2, (Lit.int .u64 x).wf = true) → ∃ k, berthinglaw21_RollEnds.f k a0 a1 l2 = some true
theorem berthinglaw21_RollEnds.walk (P : berthinglaw21_RollEnds.Pure) (a0 : Int) (a1 : Int) (a2 : Option Addr) (len2 cap2 : Nat) (z2 : List Int) (w : World) (hT : RollNext.Tab w) (w0 : (Lit.int .i64 a0).wf = true) (w1 : (Lit.int .i64 a1).wf = true) (w2 : (a2 = none ∧ len2 = 0 ∧ cap2 = 0 ∧ z2 = []) ∨ ∃ x, a2 = some x ∧ len2 ≤ cap2 ∧ cap2 ≤ maxLen ∧ z2.length = cap2 ∧ (∀ i, i < z2.length → w.cell? (x.add i) = some (.int .u64 (z2.getD i 0))) ∧ ∀ n ∈ z2, (Lit.int .u64 n).wf = true) (y2 : len2 * 8 ≤ 140737488351232) :
  Calls Tryd.prog 3 #[.int .i64 a0, .int .i64 a1, .slice a2 len2 cap2] w fun e w' => e = .returned (.bool true) ∧ Below w.heap.size w w' := by
 obtain ⟨l2, rfl, hr2, hm2, hw2, hc2⟩ := ReadsInt.ofRowC w2
 obtain ⟨k, h⟩ := P a0 a1 l2 w0 w1 hm2 y2 hw2
 refine (berthinglaw21_RollEnds.calls k a0 a1 _ _ l2 true w hT (Kd.C_of_reads (d := (0 : Int)) (h1 := fun _ => rfl) hr2) hc2 h).mono ?_
 rintro e w' ⟨rfl, hd⟩
 exact ⟨rfl, hd⟩

end Go.Proofs.YtmdjhdnejmegfaaDoor.PRoll
