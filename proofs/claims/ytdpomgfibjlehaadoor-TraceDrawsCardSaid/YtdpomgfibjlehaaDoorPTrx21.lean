/- By a program of this session (the print, with contracts written by hand let in), key Tr: what the functions come to as Lean functions, and the contracts that lead from the Go code to them. Conditions: those of the statements. -/
import Derived.Test.YtdpomgfibjlehaaDoorPTrx0
import Derived.Test.YtdpomgfibjlehaaDoorPTrx19
import Derived.Test.YtdpomgfibjlehaaDoorPTrx20
import Derived.Lib.SliceRun
namespace Go.Proofs.YtdpomgfibjlehaaDoor.PTr
open Go.RowKit Go.Proofs.YtdpomgfibjlehaaDoorW.PrintWords Go.Proofs.YtdpomgfibjlehaaDoorW.PrintLast Go.Proofs.YtdpomgfibjlehaaDoorW.PrintMore
attribute [local go_sem] max2_int min2_int max_two min_two max_three min_three max_four min_four   -- for this text's walks alone
set_option linter.unusedVariables false
set_option linter.unusedSimpArgs false

/-! ### berthingref32_Draw: function 15 -/
mutual
def berthingref32_Draw.l0 : Nat → Int → Int → Int → Int → ByteArray → List (S85) → Int → Option (ByteArray)
 | 0, _, _, _, _, _, _, _ => none
 | k + 1, x1, x2, x3, x4, x11, x12, x13 => if x13 < x2 then (berthingref32_Draw.j1 k x1 x2 x3 x4 x11 x12 x13 (decide (x13 < 64))) else (berthingref32_Draw.j1 k x1 x2 x3 x4 x11 x12 x13 false)
def berthingref32_Draw.j1 : Nat → Int → Int → Int → Int → ByteArray → List (S85) → Int → Bool → Option (ByteArray)
 | 0, _, _, _, _, _, _, _, _ => none
 | k + 1, x1, x2, x3, x4, x11, x12, x13, x27 => if x27 = true then (berthingref32_Draw.l1 k x1 x2 x3 x4 x11 x12 x13 0) else (some x11)
def berthingref32_Draw.l1 : Nat → Int → Int → Int → Int → ByteArray → List (S85) → Int → Int → Option (ByteArray)
 | 0, _, _, _, _, _, _, _, _ => none
 | k + 1, x1, x2, x3, x4, x11, x12, x13, x14 => if x14 < x4 then (berthingref32_Draw.j3 k x1 x2 x3 x4 x11 x12 x13 x14 (decide (x14 < 1024))) else (berthingref32_Draw.j3 k x1 x2 x3 x4 x11 x12 x13 x14 false)
def berthingref32_Draw.j3 : Nat → Int → Int → Int → Int → ByteArray → List (S85) → Int → Int → Bool → Option (ByteArray)
 | 0, _, _, _, _, _, _, _, _, _ => none
 | k + 1, x1, x2, x3, x4, x11, x12, x13, x14, x36 => if x36 = true then (if x3 < 0 then (if (wrap64 (x3 + x14)) < 0 then (berthingref32_Draw.j4 k x1 x2 x3 x4 x11 x12 x13 x14 (⟨#[46]⟩ : ByteArray) true) else (if x3 ≥ 1099511627776 then (berthingref32_Draw.j4 k x1 x2 x3 x4 x11 x12 x13 x14 (⟨#[46]⟩ : ByteArray) true) else (berthingref32_Draw.j4 k x1 x2 x3 x4 x11 x12 x13 x14 (⟨#[46]⟩ : ByteArray) (decide ((wrap64 (x3 + x14)) ≥ 1099511627776))))) else (if x3 ≥ 1099511627776 then (berthingref32_Draw.j4 k x1 x2 x3 x4 x11 x12 x13 x14 (⟨#[46]⟩ : ByteArray) true) else (berthingref32_Draw.j4 k x1 x2 x3 x4 x11 x12 x13 x14 (⟨#[46]⟩ : ByteArray) (decide ((wrap64 (x3 + x14)) ≥ 1099511627776))))) else (if x11.size + 1 ≤ 9223372036854775807 then (berthingref32_Draw.l0 k x1 x2 x3 x4 (x11 ++ (⟨#[10]⟩ : ByteArray)) x12 (wrap64 (x13 + 1))) else (none))
def berthingref32_Draw.j4 : Nat → Int → Int → Int → Int → ByteArray → List (S85) → Int → Int → ByteArray → Bool → Option (ByteArray)
 | 0, _, _, _, _, _, _, _, _, _, _ => none
 | k + 1, x1, x2, x3, x4, x11, x12, x13, x14, x15, x56 => if x56 = true then (berthingref32_Draw.j5 k x1 x2 x3 x4 x11 x12 x13 x14 (⟨#[32]⟩ : ByteArray)) else (berthingref32_Draw.j5 k x1 x2 x3 x4 x11 x12 x13 x14 x15)
def berthingref32_Draw.j5 : Nat → Int → Int → Int → Int → ByteArray → List (S85) → Int → Int → ByteArray → Option (ByteArray)
 | 0, _, _, _, _, _, _, _, _, _ => none
 | k + 1, x1, x2, x3, x4, x11, x12, x13, x14, x15 => berthingref32_Draw.l2 k x1 x2 x3 x4 x11 x12 x13 x14 x15 0
def berthingref32_Draw.l2 : Nat → Int → Int → Int → Int → ByteArray → List (S85) → Int → Int → ByteArray → Int → Option (ByteArray)
 | 0, _, _, _, _, _, _, _, _, _, _ => none
 | k + 1, x1, x2, x3, x4, x11, x12, x13, x14, x15, x16 => if x16 < (x12.length : Int) then (berthingref32_Draw.j7 k x1 x2 x3 x4 x11 x12 x13 x14 x15 x16 (x15.toList != ([32] : List UInt8))) else (berthingref32_Draw.j7 k x1 x2 x3 x4 x11 x12 x13 x14 x15 x16 false)
def berthingref32_Draw.j7 : Nat → Int → Int → Int → Int → ByteArray → List (S85) → Int → Int → ByteArray → Int → Bool → Option (ByteArray)
 | 0, _, _, _, _, _, _, _, _, _, _, _ => none
 | k + 1, x1, x2, x3, x4, x11, x12, x13, x14, x15, x16, x64 => if x64 = true then (if 0 ≤ x16 then (if x16 < (x12.length : Int) then (if ((rd_T85 x12 x16).f1) = x1 then (if ((rd_T85 x12 x16).f3.f0) ≤ (wrap64 (x3 + x14)) then (if (wrap64 (x3 + x14)) < ((rd_T85 x12 x16).f3.f1) then ((berthingref07_Of.f k ((rd_T85 x12 x16).f2)).bind fun t317 => ((berthingref07_List_Has.f k t317 x13).bind fun t320 => (if t320 = true then (if 0 ≤ (Int.tmod ((rd_T85 x12 x16).f0) 10) then (if (Int.tmod ((rd_T85 x12 x16).f0) 10) ≤ (wrap64 ((Int.tmod ((rd_T85 x12 x16).f0) 10) + 1)) then (if (wrap64 ((Int.tmod ((rd_T85 x12 x16).f0) 10) + 1)) ≤ 10 then (berthingref32_Draw.l2 k x1 x2 x3 x4 x11 x12 x13 x14 ((⟨#[48, 49, 50, 51, 52, 53, 54, 55, 56, 57]⟩ : ByteArray).extract ((Int.tmod ((rd_T85 x12 x16).f0) 10) : Int).toNat ((wrap64 ((Int.tmod ((rd_T85 x12 x16).f0) 10) + 1)) : Int).toNat) (wrap64 (x16 + 1))) else (none)) else (none)) else (none)) else (berthingref32_Draw.l2 k x1 x2 x3 x4 x11 x12 x13 x14 x15 (wrap64 (x16 + 1)))))) else (berthingref32_Draw.l2 k x1 x2 x3 x4 x11 x12 x13 x14 x15 (wrap64 (x16 + 1)))) else (berthingref32_Draw.l2 k x1 x2 x3 x4 x11 x12 x13 x14 x15 (wrap64 (x16 + 1)))) else (berthingref32_Draw.l2 k x1 x2 x3 x4 x11 x12 x13 x14 x15 (wrap64 (x16 + 1)))) else (none)) else (none)) else (if x11.size + x15.size ≤ 9223372036854775807 then (berthingref32_Draw.l1 k x1 x2 x3 x4 (x11 ++ x15) x12 x13 (wrap64 (x14 + 1))) else (none))
end
def berthingref32_Draw.f (k : Nat) (l0 : List (S35)) (a1 : Int) (a2 : Int) (a3 : Int) (a4 : Int) : Option (ByteArray) := (berthingref32_Rows.f k l0).bind fun t310 => (berthingref32_Draw.l0 k a1 a2 a3 a4 (⟨#[]⟩ : ByteArray) t310 0)
theorem berthingref32_Draw.mono_l : ∀ k, (∀ y0 y1 y2 y3 y4 y5 y6, LeO (berthingref32_Draw.l0 k y0 y1 y2 y3 y4 y5 y6) (berthingref32_Draw.l0 (k + 1) y0 y1 y2 y3 y4 y5 y6)) ∧ (∀ y0 y1 y2 y3 y4 y5 y6 y7, LeO (berthingref32_Draw.j1 k y0 y1 y2 y3 y4 y5 y6 y7) (berthingref32_Draw.j1 (k + 1) y0 y1 y2 y3 y4 y5 y6 y7)) ∧ (∀ y0 y1 y2 y3 y4 y5 y6 y7, LeO (berthingref32_Draw.l1 k y0 y1 y2 y3 y4 y5 y6 y7) (berthingref32_Draw.l1 (k + 1) y0 y1 y2 y3 y4 y5 y6 y7)) ∧ (∀ y0 y1 y2 y3 y4 y5 y6 y7 y8, LeO (berthingref32_Draw.j3 k y0 y1 y2 y3 y4 y5 y6 y7 y8) (berthingref32_Draw.j3 (k + 1) y0 y1 y2 y3 y4 y5 y6 y7 y8)) ∧ (∀ y0 y1 y2 y3 y4 y5 y6 y7 y8 y9, LeO (berthingref32_Draw.j4 k y0 y1 y2 y3 y4 y5 y6 y7 y8 y9) (berthingref32_Draw.j4 (k + 1) y0 y1 y2 y3 y4 y5 y6 y7 y8 y9)) ∧ (∀ y0 y1 y2 y3 y4 y5 y6 y7 y8, LeO (berthingref32_Draw.j5 k y0 y1 y2 y3 y4 y5 y6 y7 y8) (berthingref32_Draw.j5 (k + 1) y0 y1 y2 y3 y4 y5 y6 y7 y8)) ∧ (∀ y0 y1 y2 y3 y4 y5 y6 y7 y8 y9, LeO (berthingref32_Draw.l2 k y0 y1 y2 y3 y4 y5 y6 y7 y8 y9) (berthingref32_Draw.l2 (k + 1) y0 y1 y2 y3 y4 y5 y6 y7 y8 y9)) ∧ (∀ y0 y1 y2 y3 y4 y5 y6 y7 y8 y9 y10, LeO (berthingref32_Draw.j7 k y0 y1 y2 y3 y4 y5 y6 y7 y8 y9 y10) (berthingref32_Draw.j7 (k + 1) y0 y1 y2 y3 y4 y5 y6 y7 y8 y9 y10))
 | 0 => ⟨fun _ _ _ _ _ _ _ r h => by simp [berthingref32_Draw.l0] at h, fun _ _ _ _ _ _ _ _ r h => by simp [berthingref32_Draw.j1] at h, fun _ _ _ _ _ _ _ _ r h => by simp [berthingref32_Draw.l1] at h, fun _ _ _ _ _ _ _ _ _ r h => by simp [berthingref32_Draw.j3] at h, fun _ _ _ _ _ _ _ _ _ _ r h => by simp [berthingref32_Draw.j4] at h, fun _ _ _ _ _ _ _ _ _ r h => by simp [berthingref32_Draw.j5] at h, fun _ _ _ _ _ _ _ _ _ _ r h => by simp [berthingref32_Draw.l2] at h, fun _ _ _ _ _ _ _ _ _ _ _ r h => by simp [berthingref32_Draw.j7] at h⟩
 | k + 1 => by
  obtain ⟨ih0, ih1, ih2, ih3, ih4, ih5, ih6, ih7⟩ := berthingref32_Draw.mono_l k
  refine ⟨?_, ?_, ?_, ?_, ?_, ?_, ?_, ?_⟩
  ·intro y0 y1 y2 y3 y4 y5 y6
   unfold berthingref32_Draw.l0
   repeat' first
   | (with_reducible exact ih0 _ _ _ _ _ _ _)
   | (with_reducible exact ih1 _ _ _ _ _ _ _ _)
   | (with_reducible exact ih2 _ _ _ _ _ _ _ _)
   | (with_reducible exact ih3 _ _ _ _ _ _ _ _ _)
   | (with_reducible exact ih4 _ _ _ _ _ _ _ _ _ _)
   | (with_reducible exact ih5 _ _ _ _ _ _ _ _ _)
   | (with_reducible exact ih6 _ _ _ _ _ _ _ _ _ _)
   | (with_reducible exact ih7 _ _ _ _ _ _ _ _ _ _ _)
   | (with_reducible exact berthingref07_List_Has.mono _ _ _)
   | (with_reducible exact berthingref07_Of.mono _ _)
   | (with_reducible exact berthingref32_Rows.mono _ _)
   | (with_reducible exact LeO.refl _)
   | (with_reducible exact LeO.none _)
   | (with_reducible refine LeO.ite ?_ ?_)
   | (with_reducible refine LeO.bind ?_ (fun _ => ?_))
   | exact ih0 _ _ _ _ _ _ _
   | exact ih1 _ _ _ _ _ _ _ _
   | exact ih2 _ _ _ _ _ _ _ _
   | exact ih3 _ _ _ _ _ _ _ _ _
   | exact ih4 _ _ _ _ _ _ _ _ _ _
   | exact ih5 _ _ _ _ _ _ _ _ _
   | exact ih6 _ _ _ _ _ _ _ _ _ _
   | exact ih7 _ _ _ _ _ _ _ _ _ _ _
   | exact berthingref07_List_Has.mono _ _ _
   | exact berthingref07_Of.mono _ _
   | exact berthingref32_Rows.mono _ _
   | exact LeO.none _
   | refine LeO.ite ?_ ?_
   | refine LeO.bind ?_ (fun _ => ?_)
  ·intro y0 y1 y2 y3 y4 y5 y6 y7
   unfold berthingref32_Draw.j1
   repeat' first
   | (with_reducible exact ih0 _ _ _ _ _ _ _)
   | (with_reducible exact ih1 _ _ _ _ _ _ _ _)
   | (with_reducible exact ih2 _ _ _ _ _ _ _ _)
   | (with_reducible exact ih3 _ _ _ _ _ _ _ _ _)
   | (with_reducible exact ih4 _ _ _ _ _ _ _ _ _ _)
   | (with_reducible exact ih5 _ _ _ _ _ _ _ _ _)
   | (with_reducible exact ih6 _ _ _ _ _ _ _ _ _ _)
   | (with_reducible exact ih7 _ _ _ _ _ _ _ _ _ _ _)
   | (with_reducible exact berthingref07_List_Has.mono _ _ _)
   | (with_reducible exact berthingref07_Of.mono _ _)
   | (with_reducible exact berthingref32_Rows.mono _ _)
   | (with_reducible exact LeO.refl _)
   | (with_reducible exact LeO.none _)
   | (with_reducible refine LeO.ite ?_ ?_)
   | (with_reducible refine LeO.bind ?_ (fun _ => ?_))
   | exact ih0 _ _ _ _ _ _ _
   | exact ih1 _ _ _ _ _ _ _ _
   | exact ih2 _ _ _ _ _ _ _ _
   | exact ih3 _ _ _ _ _ _ _ _ _
   | exact ih4 _ _ _ _ _ _ _ _ _ _
   | exact ih5 _ _ _ _ _ _ _ _ _
   | exact ih6 _ _ _ _ _ _ _ _ _ _
   | exact ih7 _ _ _ _ _ _ _ _ _ _ _
   | exact berthingref07_List_Has.mono _ _ _
   | exact berthingref07_Of.mono _ _
   | exact berthingref32_Rows.mono _ _
   | exact LeO.none _
   | refine LeO.ite ?_ ?_
   | refine LeO.bind ?_ (fun _ => ?_)
  ·intro y0 y1 y2 y3 y4 y5 y6 y7
   unfold berthingref32_Draw.l1
   repeat' first
   | (with_reducible exact ih0 _ _ _ _ _ _ _)
   | (with_reducible exact ih1 _ _ _ _ _ _ _ _)
   | (with_reducible exact ih2 _ _ _ _ _ _ _ _)
   | (with_reducible exact ih3 _ _ _ _ _ _ _ _ _)
   | (with_reducible exact ih4 _ _ _ _ _ _ _ _ _ _)
   | (with_reducible exact ih5 _ _ _ _ _ _ _ _ _)
   | (with_reducible exact ih6 _ _ _ _ _ _ _ _ _ _)
   | (with_reducible exact ih7 _ _ _ _ _ _ _ _ _ _ _)
   | (with_reducible exact berthingref07_List_Has.mono _ _ _)
   | (with_reducible exact berthingref07_Of.mono _ _)
   | (with_reducible exact berthingref32_Rows.mono _ _)
   | (with_reducible exact LeO.refl _)
   | (with_reducible exact LeO.none _)
   | (with_reducible refine LeO.ite ?_ ?_)
   | (with_reducible refine LeO.bind ?_ (fun _ => ?_))
   | exact ih0 _ _ _ _ _ _ _
   | exact ih1 _ _ _ _ _ _ _ _
   | exact ih2 _ _ _ _ _ _ _ _
   | exact ih3 _ _ _ _ _ _ _ _ _
   | exact ih4 _ _ _ _ _ _ _ _ _ _
   | exact ih5 _ _ _ _ _ _ _ _ _
   | exact ih6 _ _ _ _ _ _ _ _ _ _
   | exact ih7 _ _ _ _ _ _ _ _ _ _ _
   | exact berthingref07_List_Has.mono _ _ _
   | exact berthingref07_Of.mono _ _
   | exact berthingref32_Rows.mono _ _
   | exact LeO.none _
   | refine LeO.ite ?_ ?_
   | refine LeO.bind ?_ (fun _ => ?_)
  ·intro y0 y1 y2 y3 y4 y5 y6 y7 y8
   unfold berthingref32_Draw.j3
   repeat' first
   | (with_reducible exact ih0 _ _ _ _ _ _ _)
   | (with_reducible exact ih1 _ _ _ _ _ _ _ _)
   | (with_reducible exact ih2 _ _ _ _ _ _ _ _)
   | (with_reducible exact ih3 _ _ _ _ _ _ _ _ _)
   | (with_reducible exact ih4 _ _ _ _ _ _ _ _ _ _)
   | (with_reducible exact ih5 _ _ _ _ _ _ _ _ _)
   | (with_reducible exact ih6 _ _ _ _ _ _ _ _ _ _)
   | (with_reducible exact ih7 _ _ _ _ _ _ _ _ _ _ _)
   | (with_reducible exact berthingref07_List_Has.mono _ _ _)
   | (with_reducible exact berthingref07_Of.mono _ _)
   | (with_reducible exact berthingref32_Rows.mono _ _)
   | (with_reducible exact LeO.refl _)
   | (with_reducible exact LeO.none _)
   | (with_reducible refine LeO.ite ?_ ?_)
   | (with_reducible refine LeO.bind ?_ (fun _ => ?_))
   | exact ih0 _ _ _ _ _ _ _
   | exact ih1 _ _ _ _ _ _ _ _
   | exact ih2 _ _ _ _ _ _ _ _
   | exact ih3 _ _ _ _ _ _ _ _ _
   | exact ih4 _ _ _ _ _ _ _ _ _ _
   | exact ih5 _ _ _ _ _ _ _ _ _
   | exact ih6 _ _ _ _ _ _ _ _ _ _
   | exact ih7 _ _ _ _ _ _ _ _ _ _ _
   | exact berthingref07_List_Has.mono _ _ _
   | exact berthingref07_Of.mono _ _
   | exact berthingref32_Rows.mono _ _
   | exact LeO.none _
   | refine LeO.ite ?_ ?_
   | refine LeO.bind ?_ (fun _ => ?_)
  ·intro y0 y1 y2 y3 y4 y5 y6 y7 y8 y9
   unfold berthingref32_Draw.j4
   repeat' first
   | (with_reducible exact ih0 _ _ _ _ _ _ _)
   | (with_reducible exact ih1 _ _ _ _ _ _ _ _)
   | (with_reducible exact ih2 _ _ _ _ _ _ _ _)
   | (with_reducible exact ih3 _ _ _ _ _ _ _ _ _)
   | (with_reducible exact ih4 _ _ _ _ _ _ _ _ _ _)
   | (with_reducible exact ih5 _ _ _ _ _ _ _ _ _)
   | (with_reducible exact ih6 _ _ _ _ _ _ _ _ _ _)
   | (with_reducible exact ih7 _ _ _ _ _ _ _ _ _ _ _)
   | (with_reducible exact berthingref07_List_Has.mono _ _ _)
   | (with_reducible exact berthingref07_Of.mono _ _)
   | (with_reducible exact berthingref32_Rows.mono _ _)
   | (with_reducible exact LeO.refl _)
   | (with_reducible exact LeO.none _)
   | (with_reducible refine LeO.ite ?_ ?_)
   | (with_reducible refine LeO.bind ?_ (fun _ => ?_))
   | exact ih0 _ _ _ _ _ _ _
   | exact ih1 _ _ _ _ _ _ _ _
   | exact ih2 _ _ _ _ _ _ _ _
   | exact ih3 _ _ _ _ _ _ _ _ _
   | exact ih4 _ _ _ _ _ _ _ _ _ _
   | exact ih5 _ _ _ _ _ _ _ _ _
   | exact ih6 _ _ _ _ _ _ _ _ _ _
   | exact ih7 _ _ _ _ _ _ _ _ _ _ _
   | exact berthingref07_List_Has.mono _ _ _
   | exact berthingref07_Of.mono _ _
   | exact berthingref32_Rows.mono _ _
   | exact LeO.none _
   | refine LeO.ite ?_ ?_
   | refine LeO.bind ?_ (fun _ => ?_)
  ·intro y0 y1 y2 y3 y4 y5 y6 y7 y8
   unfold berthingref32_Draw.j5
   repeat' first
   | (with_reducible exact ih0 _ _ _ _ _ _ _)
   | (with_reducible exact ih1 _ _ _ _ _ _ _ _)
   | (with_reducible exact ih2 _ _ _ _ _ _ _ _)
   | (with_reducible exact ih3 _ _ _ _ _ _ _ _ _)
   | (with_reducible exact ih4 _ _ _ _ _ _ _ _ _ _)
   | (with_reducible exact ih5 _ _ _ _ _ _ _ _ _)
   | (with_reducible exact ih6 _ _ _ _ _ _ _ _ _ _)
   | (with_reducible exact ih7 _ _ _ _ _ _ _ _ _ _ _)
   | (with_reducible exact berthingref07_List_Has.mono _ _ _)
   | (with_reducible exact berthingref07_Of.mono _ _)
   | (with_reducible exact berthingref32_Rows.mono _ _)
   | (with_reducible exact LeO.refl _)
   | (with_reducible exact LeO.none _)
   | (with_reducible refine LeO.ite ?_ ?_)
   | (with_reducible refine LeO.bind ?_ (fun _ => ?_))
   | exact ih0 _ _ _ _ _ _ _
   | exact ih1 _ _ _ _ _ _ _ _
   | exact ih2 _ _ _ _ _ _ _ _
   | exact ih3 _ _ _ _ _ _ _ _ _
   | exact ih4 _ _ _ _ _ _ _ _ _ _
   | exact ih5 _ _ _ _ _ _ _ _ _
   | exact ih6 _ _ _ _ _ _ _ _ _ _
   | exact ih7 _ _ _ _ _ _ _ _ _ _ _
   | exact berthingref07_List_Has.mono _ _ _
   | exact berthingref07_Of.mono _ _
   | exact berthingref32_Rows.mono _ _
   | exact LeO.none _
   | refine LeO.ite ?_ ?_
   | refine LeO.bind ?_ (fun _ => ?_)
  ·intro y0 y1 y2 y3 y4 y5 y6 y7 y8 y9
   unfold berthingref32_Draw.l2
   repeat' first
   | (with_reducible exact ih0 _ _ _ _ _ _ _)
   | (with_reducible exact ih1 _ _ _ _ _ _ _ _)
   | (with_reducible exact ih2 _ _ _ _ _ _ _ _)
   | (with_reducible exact ih3 _ _ _ _ _ _ _ _ _)
   | (with_reducible exact ih4 _ _ _ _ _ _ _ _ _ _)
   | (with_reducible exact ih5 _ _ _ _ _ _ _ _ _)
   | (with_reducible exact ih6 _ _ _ _ _ _ _ _ _ _)
   | (with_reducible exact ih7 _ _ _ _ _ _ _ _ _ _ _)
   | (with_reducible exact berthingref07_List_Has.mono _ _ _)
   | (with_reducible exact berthingref07_Of.mono _ _)
   | (with_reducible exact berthingref32_Rows.mono _ _)
   | (with_reducible exact LeO.refl _)
   | (with_reducible exact LeO.none _)
   | (with_reducible refine LeO.ite ?_ ?_)
   | (with_reducible refine LeO.bind ?_ (fun _ => ?_))
   | exact ih0 _ _ _ _ _ _ _
   | exact ih1 _ _ _ _ _ _ _ _
   | exact ih2 _ _ _ _ _ _ _ _
   | exact ih3 _ _ _ _ _ _ _ _ _
   | exact ih4 _ _ _ _ _ _ _ _ _ _
   | exact ih5 _ _ _ _ _ _ _ _ _
   | exact ih6 _ _ _ _ _ _ _ _ _ _
   | exact ih7 _ _ _ _ _ _ _ _ _ _ _
   | exact berthingref07_List_Has.mono _ _ _
   | exact berthingref07_Of.mono _ _
   | exact berthingref32_Rows.mono _ _
   | exact LeO.none _
   | refine LeO.ite ?_ ?_
   | refine LeO.bind ?_ (fun _ => ?_)
  ·intro y0 y1 y2 y3 y4 y5 y6 y7 y8 y9 y10
   unfold berthingref32_Draw.j7
   repeat' first
   | (with_reducible exact ih0 _ _ _ _ _ _ _)
   | (with_reducible exact ih1 _ _ _ _ _ _ _ _)
   | (with_reducible exact ih2 _ _ _ _ _ _ _ _)
   | (with_reducible exact ih3 _ _ _ _ _ _ _ _ _)
   | (with_reducible exact ih4 _ _ _ _ _ _ _ _ _ _)
   | (with_reducible exact ih5 _ _ _ _ _ _ _ _ _)
   | (with_reducible exact ih6 _ _ _ _ _ _ _ _ _ _)
   | (with_reducible exact ih7 _ _ _ _ _ _ _ _ _ _ _)
   | (with_reducible exact berthingref07_List_Has.mono _ _ _)
   | (with_reducible exact berthingref07_Of.mono _ _)
   | (with_reducible exact berthingref32_Rows.mono _ _)
   | (with_reducible exact LeO.refl _)
   | (with_reducible exact LeO.none _)
   | (with_reducible refine LeO.ite ?_ ?_)
   | (with_reducible refine LeO.bind ?_ (fun _ => ?_))
   | exact ih0 _ _ _ _ _ _ _
   | exact ih1 _ _ _ _ _ _ _ _
   | exact ih2 _ _ _ _ _ _ _ _
   | exact ih3 _ _ _ _ _ _ _ _ _
   | exact ih4 _ _ _ _ _ _ _ _ _ _
   | exact ih5 _ _ _ _ _ _ _ _ _
   | exact ih6 _ _ _ _ _ _ _ _ _ _
   | exact ih7 _ _ _ _ _ _ _ _ _ _ _
   | exact berthingref07_List_Has.mono _ _ _
   | exact berthingref07_Of.mono _ _
   | exact berthingref32_Rows.mono _ _
   | exact LeO.none _
   | refine LeO.ite ?_ ?_
   | refine LeO.bind ?_ (fun _ => ?_)
theorem berthingref32_Draw.mono : ∀ a0 a1 a2 a3 a4 k, LeO (berthingref32_Draw.f k a0 a1 a2 a3 a4) (berthingref32_Draw.f (k + 1) a0 a1 a2 a3 a4) := by
 intro a0 a1 a2 a3 a4 k
 obtain ⟨ih0, ih1, ih2, ih3, ih4, ih5, ih6, ih7⟩ := berthingref32_Draw.mono_l k
 unfold berthingref32_Draw.f
 repeat' first
   | (with_reducible exact ih0 _ _ _ _ _ _ _)
   | (with_reducible exact ih1 _ _ _ _ _ _ _ _)
   | (with_reducible exact ih2 _ _ _ _ _ _ _ _)
   | (with_reducible exact ih3 _ _ _ _ _ _ _ _ _)
   | (with_reducible exact ih4 _ _ _ _ _ _ _ _ _ _)
   | (with_reducible exact ih5 _ _ _ _ _ _ _ _ _)
   | (with_reducible exact ih6 _ _ _ _ _ _ _ _ _ _)
   | (with_reducible exact ih7 _ _ _ _ _ _ _ _ _ _ _)
   | (with_reducible exact berthingref07_List_Has.mono _ _ _)
   | (with_reducible exact berthingref07_Of.mono _ _)
   | (with_reducible exact berthingref32_Rows.mono _ _)
   | (with_reducible exact LeO.refl _)
   | (with_reducible exact LeO.none _)
   | (with_reducible refine LeO.ite ?_ ?_)
   | (with_reducible refine LeO.bind ?_ (fun _ => ?_))
   | exact ih0 _ _ _ _ _ _ _
   | exact ih1 _ _ _ _ _ _ _ _
   | exact ih2 _ _ _ _ _ _ _ _
   | exact ih3 _ _ _ _ _ _ _ _ _
   | exact ih4 _ _ _ _ _ _ _ _ _ _
   | exact ih5 _ _ _ _ _ _ _ _ _
   | exact ih6 _ _ _ _ _ _ _ _ _ _
   | exact ih7 _ _ _ _ _ _ _ _ _ _ _
   | exact berthingref07_List_Has.mono _ _ _
   | exact berthingref07_Of.mono _ _
   | exact berthingref32_Rows.mono _ _
   | exact LeO.none _
   | refine LeO.ite ?_ ?_
   | refine LeO.bind ?_ (fun _ => ?_)
set_option maxHeartbeats 8000000 in
set_option maxRecDepth 100000 in
theorem berthingref32_Draw.calls (k : Nat) (A0 : Option Addr) (c0 : Nat) (l0 : List (S35)) (a1 : Int) (a2 : Int) (a3 : Int) (a4 : Int) (r : ByteArray) (w : World) (hr0 : Kd.C k35 w A0 l0.length l0) (hc0 : l0.length ≤ c0) (h : berthingref32_Draw.f k l0 a1 a2 a3 a4 = some r) :
  Calls Tryd.prog 15 #[.slice A0 l0.length c0, .int .i64 a1, .int .i64 a2, .int .i64 a3, .int .i64 a4] w fun e w' => e = .returned (.string r) ∧ Below w.heap.size w w' := by
 have HR0 := Aside0.mk hr0
 have HC0 := Aside0.mk hc0
 clear hr0 hc0
 have HB := Aside0.mk (Below.refl w.heap.size w)
 have H : ((berthingref32_Rows.f k l0).bind fun t310 => (berthingref32_Draw.l0 k a1 a2 a3 a4 (⟨#[]⟩ : ByteArray) t310 0)) = some r := h
 clear h
 replace H := Option.bind_eq_some_iff.mp H
 obtain ⟨t310, A60, H⟩ := H
 replace H : (berthingref32_Draw.l0 k a1 a2 a3 a4 (⟨#[]⟩ : ByteArray) t310 0) = some r := H
 have A6 := Aside0.mk A60
 clear A60
 have H' := Aside0.mk H
 clear H
 go_enter Tryd.func15, Tryd.ntmps15
 go_wp2_with (first | ((with_reducible refine gate_callee (f := 34) rfl ?_); refine goesL_ (some 20) rfl rfl Tryd.func34 (by kernel_rfl) rfl #[.slice A0 l0.length c0] rfl (by (try simp only [List.map_toArray, List.map_cons, List.map_nil]); first | done | rfl | (simp only [List.length_drop, List.length_take]; rfl)) ?_; (with_reducible refine (berthingref32_Rows.calls k _ _ l0 t310 _ ?side1 ?side2 A6.out).mono ?_); (case side1 => repeat (first | exact HR0.out | (with_reducible refine Kd.C_alloc ?_ _) | (with_reducible refine Kd.C_drewN ?_ _) | (with_reducible refine Kd.C_drew ?_))); (case side2 => exact HC0.out); rintro e w7 ⟨v311, rfl, ho0, hb⟩; refine ⟨_, rfl, ?_⟩; have n0_ := Aside0.mk (Kd.R_lower ho0 (below_size (by repeat (first | (with_reducible first | exact HB.out | apply below_alloc | apply pw_below_drewN | apply below_drew1) | exact HB.out)))); have n1_ := Aside0.mk (below_step (by repeat (first | (with_reducible first | exact HB.out | apply below_alloc | apply pw_below_drewN | apply below_drew1) | exact HB.out)) hb); clear HB; have HO312 := n0_; have HB := n1_; clear n0_ n1_; (try clear hb); (try clear hb2); (try clear hk); (try clear hi); (try clear ho0)))
 go_loopg [11, 13] k (fun kq v11 v13 w' => ∃ (x11_1 : ByteArray) (x13_1 : Int), v11 = .string x11_1 ∧ v13 = .int .i64 x13_1 ∧ Aside0 (berthingref32_Draw.l0 kq a1 a2 a3 a4 x11_1 t310 x13_1 = some r) ∧ Aside0 (kq ≤ k) ∧ Aside0 (Kd.R k85 85 w' w.heap.size (fun _ => True) v311 t310) ∧ Aside0 (Below w.heap.size w w'))
 case atStart => exact ⟨((⟨#[]⟩ : ByteArray)), (0), (by first | rfl | (simp; done) | (simp [*]; done)), (by first | rfl | (simp; done) | (simp [*]; done)), H', ⟨Nat.le_refl _⟩, ⟨by (with_reducible repeat (first | apply Kd.R_alloc | apply Kd.R_drewN | apply Kd.R_drew)); exact HO312.out⟩, ⟨by repeat (first | (with_reducible first | exact HB.out | apply below_alloc | apply pw_below_drewN | apply below_drew1) | exact HB.out)⟩⟩
 case round =>
  clear H'
  try clear c1
  try clear p2
  try clear c3
  obtain ⟨x11_1, x13_1, rfl, rfl, HA, HK1, HO_12, HB⟩ := hrel
  cases gk with
  | zero => exact absurd HA.out (by simp [berthingref32_Draw.l0])
  | succ k1 =>
   have H := HA.out
   clear HA
   simp only [berthingref32_Draw.l0] at H
   have HC8 := Aside0.mk H
   clear H
   go_upto_region 4 with (fail)
   go_cut [27] (fun v27 wc => ∃ (kq : Nat) (x27_7 : Bool), v27 = .bool x27_7 ∧ Aside0 (berthingref32_Draw.j1 kq a1 a2 a3 a4 x11_1 t310 x13_1 x27_7 = some r) ∧ Aside0 (kq ≤ k1) ∧ Aside0 (Kd.R k85 85 wc w.heap.size (fun _ => True) v311 t310) ∧ Aside0 (Below w.heap.size w wc))
   case first =>
    have H := HC8.out
    clear HC8
    by_cases c9 : x13_1 < a2
    ·rw [if_pos c9] at H
     have c9b0 : decide (x13_1 < a2) = true := decide_eq_true c9
     clear c9
     (first | rw [c9b0] | (simp only [i64_w, i32_w]; rw [c9b0]) | skip)
     have H' := Aside0.mk H
     clear H
     go_wp2
     go_meet
     case rel => exact ⟨_, (decide (x13_1 < 64)), (by first | rfl | (simp; done) | (simp [*]; done)), H', ⟨by have := HK1.out; first | omega | exact Nat.le_refl _⟩, ⟨by (with_reducible repeat (first | apply Kd.R_alloc | apply Kd.R_drewN | apply Kd.R_drew)); exact HO_12.out⟩, ⟨by repeat (first | (with_reducible first | exact HB.out | apply below_alloc | apply pw_below_drewN | apply below_drew1) | exact HB.out)⟩⟩
    ·rw [if_neg c9] at H
     have c9b0 : decide (x13_1 < a2) = false := decide_eq_false c9
     clear c9
     (first | rw [c9b0] | (simp only [i64_w, i32_w]; rw [c9b0]) | skip)
     have H' := Aside0.mk H
     clear H
     go_wp2
     go_meet
     case rel => exact ⟨_, (false), (by first | rfl | (simp; done) | (simp [*]; done)), H', ⟨by have := HK1.out; first | omega | exact Nat.le_refl _⟩, ⟨by (with_reducible repeat (first | apply Kd.R_alloc | apply Kd.R_drewN | apply Kd.R_drew)); exact HO_12.out⟩, ⟨by repeat (first | (with_reducible first | exact HB.out | apply below_alloc | apply pw_below_drewN | apply below_drew1) | exact HB.out)⟩⟩
   case rest =>
    clear HC8
    try clear c1
    try clear p2
    try clear c3
    try clear c9
    try clear c9b0
    try clear p2
    obtain ⟨kq, x27_7, rfl, HA, HJ7, HO_12, HB⟩ := hcut
    cases kq with
    | zero => exact absurd HA.out (by simp [berthingref32_Draw.j1])
    | succ kj7 =>
     have H := HA.out
     clear HA
     simp only [berthingref32_Draw.j1] at H
     by_cases c10 : x27_7 = true
     ·subst c10
      have H1 : (berthingref32_Draw.l1 kj7 a1 a2 a3 a4 x11_1 t310 x13_1 0) = some r := by rw [if_pos rfl] at H; exact H
      clear H
      have H := H1
      clear H1
      have H' := Aside0.mk H
      clear H
      go_wp2
      go_loopg [11, 14] kj7 (fun kq v11 v14 w' => ∃ (x11_3 : ByteArray) (x14_3 : Int), v11 = .string x11_3 ∧ v14 = .int .i64 x14_3 ∧ Aside0 (berthingref32_Draw.l1 kq a1 a2 a3 a4 x11_3 t310 x13_1 x14_3 = some r) ∧ Aside0 (kq ≤ kj7) ∧ Aside0 (Kd.R k85 85 w' w.heap.size (fun _ => True) v311 t310) ∧ Aside0 (Below w.heap.size w w'))
      case atStart => exact ⟨(x11_1), (0), (by first | rfl | (simp; done) | (simp [*]; done)), (by first | rfl | (simp; done) | (simp [*]; done)), H', ⟨Nat.le_refl _⟩, ⟨by (with_reducible repeat (first | apply Kd.R_alloc | apply Kd.R_drewN | apply Kd.R_drew)); exact HO_12.out⟩, ⟨by repeat (first | (with_reducible first | exact HB.out | apply below_alloc | apply pw_below_drewN | apply below_drew1) | exact HB.out)⟩⟩
      case round =>
       clear H'
       try clear c1
       try clear p2
       try clear c3
       try clear c9
       try clear c9b0
       try clear c10
       try clear p2
       obtain ⟨x11_3, x14_3, rfl, rfl, HA, HK3, HO_12, HB⟩ := hrel
       cases gk with
       | zero => exact absurd HA.out (by simp [berthingref32_Draw.l1])
       | succ k3 =>
        have H := HA.out
        clear HA
        simp only [berthingref32_Draw.l1] at H
        have HC11 := Aside0.mk H
        clear H
        go_upto_region 7 with (fail)
        go_cut [36] (fun v36 wc => ∃ (kq : Nat) (x36_10 : Bool), v36 = .bool x36_10 ∧ Aside0 (berthingref32_Draw.j3 kq a1 a2 a3 a4 x11_3 t310 x13_1 x14_3 x36_10 = some r) ∧ Aside0 (kq ≤ k3) ∧ Aside0 (Kd.R k85 85 wc w.heap.size (fun _ => True) v311 t310) ∧ Aside0 (Below w.heap.size w wc))
        case first =>
         have H := HC11.out
         clear HC11
         by_cases c12 : x14_3 < a4
         ·rw [if_pos c12] at H
          have c12b0 : decide (x14_3 < a4) = true := decide_eq_true c12
          clear c12
          (first | rw [c12b0] | (simp only [i64_w, i32_w]; rw [c12b0]) | skip)
          have H' := Aside0.mk H
          clear H
          go_wp2
          go_meet
          case rel => exact ⟨_, (decide (x14_3 < 1024)), (by first | rfl | (simp; done) | (simp [*]; done)), H', ⟨by have := HK1.out; have := HJ7.out; have := HK3.out; first | omega | exact Nat.le_refl _⟩, ⟨by (with_reducible repeat (first | apply Kd.R_alloc | apply Kd.R_drewN | apply Kd.R_drew)); exact HO_12.out⟩, ⟨by repeat (first | (with_reducible first | exact HB.out | apply below_alloc | apply pw_below_drewN | apply below_drew1) | exact HB.out)⟩⟩
         ·rw [if_neg c12] at H
          have c12b0 : decide (x14_3 < a4) = false := decide_eq_false c12
          clear c12
          (first | rw [c12b0] | (simp only [i64_w, i32_w]; rw [c12b0]) | skip)
          have H' := Aside0.mk H
          clear H
          go_wp2
          go_meet
          case rel => exact ⟨_, (false), (by first | rfl | (simp; done) | (simp [*]; done)), H', ⟨by have := HK1.out; have := HJ7.out; have := HK3.out; first | omega | exact Nat.le_refl _⟩, ⟨by (with_reducible repeat (first | apply Kd.R_alloc | apply Kd.R_drewN | apply Kd.R_drew)); exact HO_12.out⟩, ⟨by repeat (first | (with_reducible first | exact HB.out | apply below_alloc | apply pw_below_drewN | apply below_drew1) | exact HB.out)⟩⟩
        case rest =>
         clear HC11
         try clear c1
         try clear p2
         try clear c3
         try clear c9
         try clear c9b0
         try clear c10
         try clear c12
         try clear c12b0
         try clear p2
         obtain ⟨kq, x36_10, rfl, HA, HJ10, HO_12, HB⟩ := hcut
         cases kq with
         | zero => exact absurd HA.out (by simp [berthingref32_Draw.j3])
         | succ kj10 =>
          have H := HA.out
          clear HA
          simp only [berthingref32_Draw.j3] at H
          by_cases c13 : x36_10 = true
          ·subst c13
           have H1 : (if a3 < 0 then (if (wrap64 (a3 + x14_3)) < 0 then (berthingref32_Draw.j4 kj10 a1 a2 a3 a4 x11_3 t310 x13_1 x14_3 (⟨#[46]⟩ : ByteArray) true) else (if a3 ≥ 1099511627776 then (berthingref32_Draw.j4 kj10 a1 a2 a3 a4 x11_3 t310 x13_1 x14_3 (⟨#[46]⟩ : ByteArray) true) else (berthingref32_Draw.j4 kj10 a1 a2 a3 a4 x11_3 t310 x13_1 x14_3 (⟨#[46]⟩ : ByteArray) (decide ((wrap64 (a3 + x14_3)) ≥ 1099511627776))))) else (if a3 ≥ 1099511627776 then (berthingref32_Draw.j4 kj10 a1 a2 a3 a4 x11_3 t310 x13_1 x14_3 (⟨#[46]⟩ : ByteArray) true) else (berthingref32_Draw.j4 kj10 a1 a2 a3 a4 x11_3 t310 x13_1 x14_3 (⟨#[46]⟩ : ByteArray) (decide ((wrap64 (a3 + x14_3)) ≥ 1099511627776))))) = some r := by rw [if_pos rfl] at H; exact H
           clear H
           have H := H1
           clear H1
           have HC14 := Aside0.mk H
           clear H
           go_upto_region 10 with (fail)
           go_cut [56] (fun v56 wc => ∃ (kq : Nat) (x56_13 : Bool), v56 = .bool x56_13 ∧ Aside0 (berthingref32_Draw.j4 kq a1 a2 a3 a4 x11_3 t310 x13_1 x14_3 (⟨#[46]⟩ : ByteArray) x56_13 = some r) ∧ Aside0 (kq ≤ kj10) ∧ Aside0 (Kd.R k85 85 wc w.heap.size (fun _ => True) v311 t310) ∧ Aside0 (Below w.heap.size w wc))
           case first =>
            have H := HC14.out
            clear HC14
            by_cases c15 : a3 < 0
            ·rw [if_pos c15] at H
             have c15b0 : decide (a3 < 0) = true := decide_eq_true c15
             clear c15
             (first | rw [c15b0] | (simp only [i64_w, i32_w]; rw [c15b0]) | skip)
             by_cases c16 : (wrap64 (a3 + x14_3)) < 0
             ·rw [if_pos c16] at H
              have c16b0 : decide ((wrap64 (a3 + x14_3)) < 0) = true := decide_eq_true c16
              clear c16
              have H' := Aside0.mk H
              clear H
              go_wp2
              go_meet
              case rel => exact ⟨_, (true), (by first | rfl | (simp; done) | (simp [*]; done)), H', ⟨by have := HK1.out; have := HJ7.out; have := HK3.out; have := HJ10.out; first | omega | exact Nat.le_refl _⟩, ⟨by (with_reducible repeat (first | apply Kd.R_alloc | apply Kd.R_drewN | apply Kd.R_drew)); exact HO_12.out⟩, ⟨by repeat (first | (with_reducible first | exact HB.out | apply below_alloc | apply pw_below_drewN | apply below_drew1) | exact HB.out)⟩⟩
             ·rw [if_neg c16] at H
              have c16b0 : decide ((wrap64 (a3 + x14_3)) < 0) = false := decide_eq_false c16
              clear c16
              by_cases c17 : a3 ≥ 1099511627776
              ·rw [if_pos c17] at H
               have c17b0 : decide (1099511627776 ≤ a3) = true := decide_eq_true c17
               clear c17
               have H' := Aside0.mk H
               clear H
               go_wp2
               go_meet
               case rel => exact ⟨_, (true), (by first | rfl | (simp; done) | (simp [*]; done)), H', ⟨by have := HK1.out; have := HJ7.out; have := HK3.out; have := HJ10.out; first | omega | exact Nat.le_refl _⟩, ⟨by (with_reducible repeat (first | apply Kd.R_alloc | apply Kd.R_drewN | apply Kd.R_drew)); exact HO_12.out⟩, ⟨by repeat (first | (with_reducible first | exact HB.out | apply below_alloc | apply pw_below_drewN | apply below_drew1) | exact HB.out)⟩⟩
              ·rw [if_neg c17] at H
               have c17b0 : decide (1099511627776 ≤ a3) = false := decide_eq_false c17
               clear c17
               have H' := Aside0.mk H
               clear H
               go_wp2
               go_meet
               case rel => exact ⟨_, (decide ((wrap64 (a3 + x14_3)) ≥ 1099511627776)), (by first | rfl | (simp; done) | (simp [*]; done)), H', ⟨by have := HK1.out; have := HJ7.out; have := HK3.out; have := HJ10.out; first | omega | exact Nat.le_refl _⟩, ⟨by (with_reducible repeat (first | apply Kd.R_alloc | apply Kd.R_drewN | apply Kd.R_drew)); exact HO_12.out⟩, ⟨by repeat (first | (with_reducible first | exact HB.out | apply below_alloc | apply pw_below_drewN | apply below_drew1) | exact HB.out)⟩⟩
            ·rw [if_neg c15] at H
             have c15b0 : decide (a3 < 0) = false := decide_eq_false c15
             clear c15
             (first | rw [c15b0] | (simp only [i64_w, i32_w]; rw [c15b0]) | skip)
             by_cases c18 : a3 ≥ 1099511627776
             ·rw [if_pos c18] at H
              have c18b0 : decide (1099511627776 ≤ a3) = true := decide_eq_true c18
              clear c18
              have H' := Aside0.mk H
              clear H
              go_wp2
              go_meet
              case rel => exact ⟨_, (true), (by first | rfl | (simp; done) | (simp [*]; done)), H', ⟨by have := HK1.out; have := HJ7.out; have := HK3.out; have := HJ10.out; first | omega | exact Nat.le_refl _⟩, ⟨by (with_reducible repeat (first | apply Kd.R_alloc | apply Kd.R_drewN | apply Kd.R_drew)); exact HO_12.out⟩, ⟨by repeat (first | (with_reducible first | exact HB.out | apply below_alloc | apply pw_below_drewN | apply below_drew1) | exact HB.out)⟩⟩
             ·rw [if_neg c18] at H
              have c18b0 : decide (1099511627776 ≤ a3) = false := decide_eq_false c18
              clear c18
              have H' := Aside0.mk H
              clear H
              go_wp2
              go_meet
              case rel => exact ⟨_, (decide ((wrap64 (a3 + x14_3)) ≥ 1099511627776)), (by first | rfl | (simp; done) | (simp [*]; done)), H', ⟨by have := HK1.out; have := HJ7.out; have := HK3.out; have := HJ10.out; first | omega | exact Nat.le_refl _⟩, ⟨by (with_reducible repeat (first | apply Kd.R_alloc | apply Kd.R_drewN | apply Kd.R_drew)); exact HO_12.out⟩, ⟨by repeat (first | (with_reducible first | exact HB.out | apply below_alloc | apply pw_below_drewN | apply below_drew1) | exact HB.out)⟩⟩
           case rest =>
            clear HC14
            try clear c1
            try clear p2
            try clear c3
            try clear p6
            try clear c9
            try clear c9b0
            try clear c10
            try clear c12
            try clear c12b0
            try clear c13
            try clear c15
            try clear c15b0
            try clear c16
            try clear c16b0
            try clear c17
            try clear c17b0
            try clear c18
            try clear c18b0
            try clear p2
            obtain ⟨kq, x56_13, rfl, HA, HJ13, HO_12, HB⟩ := hcut
            cases kq with
            | zero => exact absurd HA.out (by simp [berthingref32_Draw.j4])
            | succ kj13 =>
             have H := HA.out
             clear HA
             simp only [berthingref32_Draw.j4] at H
             have HC19 := Aside0.mk H
             clear H
             go_upto_if 56 with (fail)
             go_cut [15] (fun v15 wc => ∃ (kq : Nat) (x15_18 : ByteArray), v15 = .string x15_18 ∧ Aside0 (berthingref32_Draw.j5 kq a1 a2 a3 a4 x11_3 t310 x13_1 x14_3 x15_18 = some r) ∧ Aside0 (kq ≤ kj13) ∧ Aside0 (Kd.R k85 85 wc w.heap.size (fun _ => True) v311 t310) ∧ Aside0 (Below w.heap.size w wc))
             case first =>
              have H := HC19.out
              clear HC19
              by_cases c20 : x56_13 = true
              ·subst c20
               have H1 : (berthingref32_Draw.j5 kj13 a1 a2 a3 a4 x11_3 t310 x13_1 x14_3 (⟨#[32]⟩ : ByteArray)) = some r := by rw [if_pos rfl] at H; exact H
               clear H
               have H := H1
               clear H1
               have H' := Aside0.mk H
               clear H
               go_wp2
               go_meet
               case rel => exact ⟨_, ((⟨#[32]⟩ : ByteArray)), (by first | rfl | (simp; done) | (simp [*]; done)), H', ⟨by have := HK1.out; have := HJ7.out; have := HK3.out; have := HJ10.out; have := HJ13.out; first | omega | exact Nat.le_refl _⟩, ⟨by (with_reducible repeat (first | apply Kd.R_alloc | apply Kd.R_drewN | apply Kd.R_drew)); exact HO_12.out⟩, ⟨by repeat (first | (with_reducible first | exact HB.out | apply below_alloc | apply pw_below_drewN | apply below_drew1) | exact HB.out)⟩⟩
              ·replace c20 := Bool.eq_false_iff.mpr c20
               subst c20
               have H1 : (berthingref32_Draw.j5 kj13 a1 a2 a3 a4 x11_3 t310 x13_1 x14_3 (⟨#[46]⟩ : ByteArray)) = some r := by rw [if_neg (show ¬ (false = true) by decide)] at H; exact H
               clear H
               have H := H1
               clear H1
               have H' := Aside0.mk H
               clear H
               go_wp2
               go_meet
               case rel => exact ⟨_, ((⟨#[46]⟩ : ByteArray)), (by first | rfl | (simp; done) | (simp [*]; done)), H', ⟨by have := HK1.out; have := HJ7.out; have := HK3.out; have := HJ10.out; have := HJ13.out; first | omega | exact Nat.le_refl _⟩, ⟨by (with_reducible repeat (first | apply Kd.R_alloc | apply Kd.R_drewN | apply Kd.R_drew)); exact HO_12.out⟩, ⟨by repeat (first | (with_reducible first | exact HB.out | apply below_alloc | apply pw_below_drewN | apply below_drew1) | exact HB.out)⟩⟩
             case rest =>
              clear HC19
              try clear c1
              try clear c2
              try clear p2
              try clear c3
              try clear p6
              try clear c9
              try clear c9b0
              try clear c10
              try clear c12
              try clear c12b0
              try clear c13
              try clear c15
              try clear c15b0
              try clear c16
              try clear c16b0
              try clear c17
              try clear c17b0
              try clear c18
              try clear c18b0
              try clear c20
              try clear p2
              try clear p6
              obtain ⟨kq, x15_18, rfl, HA, HJ18, HO_12, HB⟩ := hcut
              cases kq with
              | zero => exact absurd HA.out (by simp [berthingref32_Draw.j5])
              | succ kj18 =>
               have H := HA.out
               clear HA
               simp only [berthingref32_Draw.j5] at H
               have H' := Aside0.mk H
               clear H
               go_wp2
               go_loopg [15, 16] kj18 (fun kq v15 v16 w' => ∃ (x15_7 : ByteArray) (x16_7 : Int), v15 = .string x15_7 ∧ v16 = .int .i64 x16_7 ∧ Aside0 (berthingref32_Draw.l2 kq a1 a2 a3 a4 x11_3 t310 x13_1 x14_3 x15_7 x16_7 = some r) ∧ Aside0 (kq ≤ kj18) ∧ Aside0 (Kd.R k85 85 w' w.heap.size (fun _ => True) v311 t310) ∧ Aside0 (Below w.heap.size w w'))
               case atStart => exact ⟨(x15_18), (0), (by first | rfl | (simp; done) | (simp [*]; done)), (by first | rfl | (simp; done) | (simp [*]; done)), H', ⟨Nat.le_refl _⟩, ⟨by (with_reducible repeat (first | apply Kd.R_alloc | apply Kd.R_drewN | apply Kd.R_drew)); exact HO_12.out⟩, ⟨by repeat (first | (with_reducible first | exact HB.out | apply below_alloc | apply pw_below_drewN | apply below_drew1) | exact HB.out)⟩⟩
               case round =>
                clear H'
                try clear c1
                try clear c2
                try clear p2
                try clear c3
                try clear p6
                try clear c9
                try clear c9b0
                try clear c10
                try clear c12
                try clear c12b0
                try clear c13
                try clear c15
                try clear c15b0
                try clear c16
                try clear c16b0
                try clear c17
                try clear c17b0
                try clear c18
                try clear c18b0
                try clear c20
                try clear p2
                try clear p6
                obtain ⟨x15_7, x16_7, rfl, rfl, HA, HK7, HO_12, HB⟩ := hrel
                cases gk with
                | zero => exact absurd HA.out (by simp [berthingref32_Draw.l2])
                | succ k7 =>
                 have H := HA.out
                 clear HA
                 simp only [berthingref32_Draw.l2] at H
                 have HC21 := Aside0.mk H
                 clear H
                 go_upto_region 13 with (fail)
                 go_cut [64] (fun v64 wc => ∃ (kq : Nat) (x64_20 : Bool), v64 = .bool x64_20 ∧ Aside0 (berthingref32_Draw.j7 kq a1 a2 a3 a4 x11_3 t310 x13_1 x14_3 x15_7 x16_7 x64_20 = some r) ∧ Aside0 (kq ≤ k7) ∧ Aside0 (Kd.R k85 85 wc w.heap.size (fun _ => True) v311 t310) ∧ Aside0 (Below w.heap.size w wc))
                 case first =>
                  have H := HC21.out
                  clear HC21
                  by_cases c22 : x16_7 < (t310.length : Int)
                  ·rw [if_pos c22] at H
                   have c22b0 : decide (x16_7 < (t310.length : Int)) = true := decide_eq_true c22
                   clear c22
                   (first | rw [c22b0] | (simp only [i64_w, i32_w]; rw [c22b0]) | skip)
                   have H' := Aside0.mk H
                   clear H
                   obtain ⟨Ao23, co23, eo23⟩ := Kd.R_slice HO_12.out
                   subst eo23
                   go_wp2
                   go_meet
                   case rel => exact ⟨_, ((x15_7.toList != ([32] : List UInt8))), (by first | rfl | (simp; done) | (simp [*]; done)), H', ⟨by have := HK1.out; have := HJ7.out; have := HK3.out; have := HJ10.out; have := HJ13.out; have := HJ18.out; have := HK7.out; first | omega | exact Nat.le_refl _⟩, ⟨by (with_reducible repeat (first | apply Kd.R_alloc | apply Kd.R_drewN | apply Kd.R_drew)); exact HO_12.out⟩, ⟨by repeat (first | (with_reducible first | exact HB.out | apply below_alloc | apply pw_below_drewN | apply below_drew1) | exact HB.out)⟩⟩
                  ·rw [if_neg c22] at H
                   have c22b0 : decide (x16_7 < (t310.length : Int)) = false := decide_eq_false c22
                   clear c22
                   (first | rw [c22b0] | (simp only [i64_w, i32_w]; rw [c22b0]) | skip)
                   have H' := Aside0.mk H
                   clear H
                   obtain ⟨Ao24, co24, eo24⟩ := Kd.R_slice HO_12.out
                   subst eo24
                   go_wp2
                   go_meet
                   case rel => exact ⟨_, (false), (by first | rfl | (simp; done) | (simp [*]; done)), H', ⟨by have := HK1.out; have := HJ7.out; have := HK3.out; have := HJ10.out; have := HJ13.out; have := HJ18.out; have := HK7.out; first | omega | exact Nat.le_refl _⟩, ⟨by (with_reducible repeat (first | apply Kd.R_alloc | apply Kd.R_drewN | apply Kd.R_drew)); exact HO_12.out⟩, ⟨by repeat (first | (with_reducible first | exact HB.out | apply below_alloc | apply pw_below_drewN | apply below_drew1) | exact HB.out)⟩⟩
                 case rest =>
                  clear HC21
                  try clear c1
                  try clear c2
                  try clear p2
                  try clear c3
                  try clear p6
                  try clear c9
                  try clear c9b0
                  try clear c10
                  try clear c12
                  try clear c12b0
                  try clear c13
                  try clear c15
                  try clear c15b0
                  try clear c16
                  try clear c16b0
                  try clear c17
                  try clear c17b0
                  try clear c18
                  try clear c18b0
                  try clear c20
                  try clear c22
                  try clear c22b0
                  try clear p2
                  try clear p6
                  obtain ⟨kq, x64_20, rfl, HA, HJ20, HO_12, HB⟩ := hcut
                  cases kq with
                  | zero => exact absurd HA.out (by simp [berthingref32_Draw.j7])
                  | succ kj20 =>
                   have H := HA.out
                   clear HA
                   simp only [berthingref32_Draw.j7] at H
                   by_cases c25 : x64_20 = true
                   ·subst c25
                    have H1 : (if 0 ≤ x16_7 then (if x16_7 < (t310.length : Int) then (if ((rd_T85 t310 x16_7).f1) = a1 then (if ((rd_T85 t310 x16_7).f3.f0) ≤ (wrap64 (a3 + x14_3)) then (if (wrap64 (a3 + x14_3)) < ((rd_T85 t310 x16_7).f3.f1) then ((berthingref07_Of.f kj20 ((rd_T85 t310 x16_7).f2)).bind fun t317 => ((berthingref07_List_Has.f kj20 t317 x13_1).bind fun t320 => (if t320 = true then (if 0 ≤ (Int.tmod ((rd_T85 t310 x16_7).f0) 10) then (if (Int.tmod ((rd_T85 t310 x16_7).f0) 10) ≤ (wrap64 ((Int.tmod ((rd_T85 t310 x16_7).f0) 10) + 1)) then (if (wrap64 ((Int.tmod ((rd_T85 t310 x16_7).f0) 10) + 1)) ≤ 10 then (berthingref32_Draw.l2 kj20 a1 a2 a3 a4 x11_3 t310 x13_1 x14_3 ((⟨#[48, 49, 50, 51, 52, 53, 54, 55, 56, 57]⟩ : ByteArray).extract ((Int.tmod ((rd_T85 t310 x16_7).f0) 10) : Int).toNat ((wrap64 ((Int.tmod ((rd_T85 t310 x16_7).f0) 10) + 1)) : Int).toNat) (wrap64 (x16_7 + 1))) else (none)) else (none)) else (none)) else (berthingref32_Draw.l2 kj20 a1 a2 a3 a4 x11_3 t310 x13_1 x14_3 x15_7 (wrap64 (x16_7 + 1)))))) else (berthingref32_Draw.l2 kj20 a1 a2 a3 a4 x11_3 t310 x13_1 x14_3 x15_7 (wrap64 (x16_7 + 1)))) else (berthingref32_Draw.l2 kj20 a1 a2 a3 a4 x11_3 t310 x13_1 x14_3 x15_7 (wrap64 (x16_7 + 1)))) else (berthingref32_Draw.l2 kj20 a1 a2 a3 a4 x11_3 t310 x13_1 x14_3 x15_7 (wrap64 (x16_7 + 1)))) else (none)) else (none)) = some r := by rw [if_pos rfl] at H; exact H
                    clear H
                    have H := H1
                    clear H1
                    by_cases c26 : 0 ≤ x16_7
                    ·rw [if_pos c26] at H
                     have c26b0 : decide (0 ≤ x16_7) = true := decide_eq_true c26
                     clear c26
                     by_cases c27 : x16_7 < (t310.length : Int)
                     ·rw [if_pos c27] at H
                      have c27b0 : decide (x16_7 < (t310.length : Int)) = true := decide_eq_true c27
                      clear c27
                      by_cases c28 : ((rd_T85 t310 x16_7).f1) = a1
                      ·rw [if_pos c28] at H
                       have c28b0 : (((rd_T85 t310 x16_7).f1) == a1) = true := beq_iff_eq.mpr c28
                       have c28b1 : (((rd_T85 t310 x16_7).f1) != a1) = false := bne_eq_false_iff_eq.mpr c28
                       clear c28
                       by_cases c29 : ((rd_T85 t310 x16_7).f3.f0) ≤ (wrap64 (a3 + x14_3))
                       ·rw [if_pos c29] at H
                        have c29b0 : decide (((rd_T85 t310 x16_7).f3.f0) ≤ (wrap64 (a3 + x14_3))) = true := decide_eq_true c29
                        clear c29
                        by_cases c30 : (wrap64 (a3 + x14_3)) < ((rd_T85 t310 x16_7).f3.f1)
                        ·rw [if_pos c30] at H
                         have c30b0 : decide ((wrap64 (a3 + x14_3)) < ((rd_T85 t310 x16_7).f3.f1)) = true := decide_eq_true c30
                         clear c30
                         replace H := Option.bind_eq_some_iff.mp H
                         obtain ⟨t317, A310, H⟩ := H
                         replace H : ((berthingref07_List_Has.f kj20 t317 x13_1).bind fun t320 => (if t320 = true then (if 0 ≤ (Int.tmod ((rd_T85 t310 x16_7).f0) 10) then (if (Int.tmod ((rd_T85 t310 x16_7).f0) 10) ≤ (wrap64 ((Int.tmod ((rd_T85 t310 x16_7).f0) 10) + 1)) then (if (wrap64 ((Int.tmod ((rd_T85 t310 x16_7).f0) 10) + 1)) ≤ 10 then (berthingref32_Draw.l2 kj20 a1 a2 a3 a4 x11_3 t310 x13_1 x14_3 ((⟨#[48, 49, 50, 51, 52, 53, 54, 55, 56, 57]⟩ : ByteArray).extract ((Int.tmod ((rd_T85 t310 x16_7).f0) 10) : Int).toNat ((wrap64 ((Int.tmod ((rd_T85 t310 x16_7).f0) 10) + 1)) : Int).toNat) (wrap64 (x16_7 + 1))) else (none)) else (none)) else (none)) else (berthingref32_Draw.l2 kj20 a1 a2 a3 a4 x11_3 t310 x13_1 x14_3 x15_7 (wrap64 (x16_7 + 1))))) = some r := H
                         have A31 := Aside0.mk A310
                         clear A310
                         replace H := Option.bind_eq_some_iff.mp H
                         obtain ⟨t320, A320, H⟩ := H
                         replace H : (if t320 = true then (if 0 ≤ (Int.tmod ((rd_T85 t310 x16_7).f0) 10) then (if (Int.tmod ((rd_T85 t310 x16_7).f0) 10) ≤ (wrap64 ((Int.tmod ((rd_T85 t310 x16_7).f0) 10) + 1)) then (if (wrap64 ((Int.tmod ((rd_T85 t310 x16_7).f0) 10) + 1)) ≤ 10 then (berthingref32_Draw.l2 kj20 a1 a2 a3 a4 x11_3 t310 x13_1 x14_3 ((⟨#[48, 49, 50, 51, 52, 53, 54, 55, 56, 57]⟩ : ByteArray).extract ((Int.tmod ((rd_T85 t310 x16_7).f0) 10) : Int).toNat ((wrap64 ((Int.tmod ((rd_T85 t310 x16_7).f0) 10) + 1)) : Int).toNat) (wrap64 (x16_7 + 1))) else (none)) else (none)) else (none)) else (berthingref32_Draw.l2 kj20 a1 a2 a3 a4 x11_3 t310 x13_1 x14_3 x15_7 (wrap64 (x16_7 + 1)))) = some r := H
                         have A32 := Aside0.mk A320
                         clear A320
                         by_cases c33 : t320 = true
                         ·subst c33
                          have H1 : (if 0 ≤ (Int.tmod ((rd_T85 t310 x16_7).f0) 10) then (if (Int.tmod ((rd_T85 t310 x16_7).f0) 10) ≤ (wrap64 ((Int.tmod ((rd_T85 t310 x16_7).f0) 10) + 1)) then (if (wrap64 ((Int.tmod ((rd_T85 t310 x16_7).f0) 10) + 1)) ≤ 10 then (berthingref32_Draw.l2 kj20 a1 a2 a3 a4 x11_3 t310 x13_1 x14_3 ((⟨#[48, 49, 50, 51, 52, 53, 54, 55, 56, 57]⟩ : ByteArray).extract ((Int.tmod ((rd_T85 t310 x16_7).f0) 10) : Int).toNat ((wrap64 ((Int.tmod ((rd_T85 t310 x16_7).f0) 10) + 1)) : Int).toNat) (wrap64 (x16_7 + 1))) else (none)) else (none)) else (none)) = some r := by rw [if_pos rfl] at H; exact H
                          clear H
                          have H := H1
                          clear H1
                          obtain ⟨ji34, hji34⟩ : ∃ j_ : Int, (Int.tmod ((rd_T85 t310 x16_7).f0) 10) = j_ := ⟨_, rfl⟩
                          replace H : (if 0 ≤ (ji34) then (if (ji34) ≤ (wrap64 ((ji34) + 1)) then (if (wrap64 ((ji34) + 1)) ≤ 10 then (berthingref32_Draw.l2 kj20 a1 a2 a3 a4 x11_3 t310 x13_1 x14_3 ((⟨#[48, 49, 50, 51, 52, 53, 54, 55, 56, 57]⟩ : ByteArray).extract ((ji34) : Int).toNat ((wrap64 ((ji34) + 1)) : Int).toNat) (wrap64 (x16_7 + 1))) else (none)) else (none)) else (none)) = some r := by first | (rw [hji34] at H; exact H) | (simp only [hji34] at H ⊢; exact H)
                          (try rw [hji34] at A31)
                          (try rw [hji34] at A32)
                          by_cases c35 : 0 ≤ (ji34)
                          ·rw [if_pos c35] at H
                           have c35b0 := eq_true c35
                           have c35b1 : decide (0 ≤ (ji34)) = true := decide_eq_true c35
                           clear c35
                           by_cases c36 : (ji34) ≤ (wrap64 ((ji34) + 1))
                           ·rw [if_pos c36] at H
                            have c36b0 := eq_true c36
                            have c36b1 : decide ((ji34) ≤ (wrap64 ((ji34) + 1))) = true := decide_eq_true c36
                            by_cases c37 : (wrap64 ((ji34) + 1)) ≤ 10
                            ·rw [if_pos c37] at H
                             have c37b0 := eq_true c37
                             have c37b1 : decide ((wrap64 ((ji34) + 1)) ≤ 10) = true := decide_eq_true c37
                             have H' := Aside0.mk H
                             clear H
                             obtain ⟨Ao38, co38, eo38⟩ := Kd.R_slice HO_12.out
                             subst eo38
                             have p313 : 0 ≤ (x16_7 : Int) := of_decide_eq_true (by first | (with_reducible assumption) | assumption)
                             have q313 : x16_7 < (t310.length : Int) := of_decide_eq_true (by first | (with_reducible assumption) | assumption)
                             obtain ⟨ad313, e313, hx313_0, hx313_1, hx313_2, hx313_3, hx313_4, hx313_5⟩ := at_T85 (Kd.R_reads' HO_12.out).2.2 x16_7 p313 q313
                             cases e313
                             replace p313 := eq_true p313
                             replace q313 := eq_true q313
                             have p314 : 0 ≤ (x16_7 : Int) := of_decide_eq_true (by first | (with_reducible assumption) | assumption)
                             have q314 : x16_7 < (t310.length : Int) := of_decide_eq_true (by first | (with_reducible assumption) | assumption)
                             obtain ⟨ad314, e314, hx314_0, hx314_1, hx314_2, hx314_3, hx314_4, hx314_5⟩ := at_T85 (Kd.R_reads' HO_12.out).2.2 x16_7 p314 q314
                             obtain rfl : ad313 = ad314 := (by injection e314)
                             replace p314 := eq_true p314
                             replace q314 := eq_true q314
                             have p315 : 0 ≤ (x16_7 : Int) := of_decide_eq_true (by first | (with_reducible assumption) | assumption)
                             have q315 : x16_7 < (t310.length : Int) := of_decide_eq_true (by first | (with_reducible assumption) | assumption)
                             obtain ⟨ad315, e315, hx315_0, hx315_1, hx315_2, hx315_3, hx315_4, hx315_5⟩ := at_T85 (Kd.R_reads' HO_12.out).2.2 x16_7 p315 q315
                             obtain rfl : ad313 = ad315 := (by injection e315)
                             replace p315 := eq_true p315
                             replace q315 := eq_true q315
                             have p316 : 0 ≤ (x16_7 : Int) := of_decide_eq_true (by first | (with_reducible assumption) | assumption)
                             have q316 : x16_7 < (t310.length : Int) := of_decide_eq_true (by first | (with_reducible assumption) | assumption)
                             obtain ⟨ad316, e316, hx316_0, hx316_1, hx316_2, hx316_3, hx316_4, hx316_5⟩ := at_T85 (Kd.R_reads' HO_12.out).2.2 x16_7 p316 q316
                             obtain rfl : ad313 = ad316 := (by injection e316)
                             replace p316 := eq_true p316
                             replace q316 := eq_true q316
                             go_wp2_with (first | (go_at_call 35; (with_reducible refine (berthingref07_Of.calls kj20 ((rd_T85 t310 x16_7).f2) t317 _ A31.out).mono ?_); rintro e w39 ⟨v318, rfl, ho0, hb⟩; have n0_ := Aside0.mk (Kd.R_below (by (with_reducible repeat (first | apply Kd.R_alloc | apply Kd.R_drewN | apply Kd.R_drew)); exact HO_12.out) hb); have n1_ := Aside0.mk (Kd.R_lower ho0 (below_size (by repeat (first | (with_reducible first | exact HB.out | apply below_alloc | apply pw_below_drewN | apply below_drew1) | exact HB.out)))); have n2_ := Aside0.mk (below_step (by repeat (first | (with_reducible first | exact HB.out | apply below_alloc | apply pw_below_drewN | apply below_drew1) | exact HB.out)) hb); clear HO_12; clear HB; have HO_12 := n0_; have HO319 := n1_; have HB := n2_; clear n0_ n1_ n2_; (try clear hb); (try clear hb2); (try clear hk); (try clear hi); (try clear ho0); obtain ⟨Ao40, co40, eo40⟩ := Kd.R_slice HO319.out; subst eo40) | (go_at_call 36; (with_reducible refine (berthingref07_List_Has.calls kj20 _ _ t317 x13_1 true _ ?side1 ?side2 A32.out).mono ?_); (case side1 => repeat (first | exact (Kd.R_reads' HO319.out).2.2 | (with_reducible refine Kd.C_alloc ?_ _) | (with_reducible refine Kd.C_drewN ?_ _) | (with_reducible refine Kd.C_drew ?_))); (case side2 => exact (Kd.R_reads' HO319.out).2.1); rintro e w' ⟨rfl, ⟨nd, rfl⟩⟩; have p321 : 0 ≤ (x16_7 : Int) := of_decide_eq_true (by first | (with_reducible assumption) | assumption); have q321 : x16_7 < (t310.length : Int) := of_decide_eq_true (by first | (with_reducible assumption) | assumption); obtain ⟨ad321, e321, hx321_0, hx321_1, hx321_2, hx321_3, hx321_4, hx321_5⟩ := at_T85 (Kd.R_reads' HO_12.out).2.2 x16_7 p321 q321; obtain rfl : ad313 = ad321 := (by injection e321); replace p321 := eq_true p321; replace q321 := eq_true q321))
                             go_roundg kj20
                             case measure => have := HK1.out; have := HJ7.out; have := HK3.out; have := HJ10.out; have := HJ13.out; have := HJ18.out; have := HK7.out; have := HJ20.out; omega
                             case rel => exact ⟨((⟨#[48, 49, 50, 51, 52, 53, 54, 55, 56, 57]⟩ : ByteArray).extract ((ji34) : Int).toNat ((wrap64 ((ji34) + 1)) : Int).toNat), (wrap64 (x16_7 + 1)), (by first | rfl | (simp; done) | (simp only [← hji34] <;> (first | rfl | simp)) | (simp [*]; done)), (by first | rfl | (simp; done) | (simp [*]; done)), H', ⟨by have := HK1.out; have := HJ7.out; have := HK3.out; have := HJ10.out; have := HJ13.out; have := HJ18.out; have := HK7.out; have := HJ20.out; omega⟩, ⟨by (with_reducible repeat (first | apply Kd.R_alloc | apply Kd.R_drewN | apply Kd.R_drew)); exact HO_12.out⟩, ⟨by repeat (first | (with_reducible first | exact HB.out | apply below_alloc | apply pw_below_drewN | apply below_drew1) | exact HB.out)⟩⟩
                            ·rw [if_neg c37] at H
                             exact absurd H (by simp)
                           ·rw [if_neg c36] at H
                            exact absurd H (by simp)
                          ·rw [if_neg c35] at H
                           exact absurd H (by simp)
                         ·replace c33 := Bool.eq_false_iff.mpr c33
                          subst c33
                          have H1 : (berthingref32_Draw.l2 kj20 a1 a2 a3 a4 x11_3 t310 x13_1 x14_3 x15_7 (wrap64 (x16_7 + 1))) = some r := by rw [if_neg (show ¬ (false = true) by decide)] at H; exact H
                          clear H
                          have H := H1
                          clear H1
                          have H' := Aside0.mk H
                          clear H
                          obtain ⟨Ao41, co41, eo41⟩ := Kd.R_slice HO_12.out
                          subst eo41
                          have p313 : 0 ≤ (x16_7 : Int) := of_decide_eq_true (by first | (with_reducible assumption) | assumption)
                          have q313 : x16_7 < (t310.length : Int) := of_decide_eq_true (by first | (with_reducible assumption) | assumption)
                          obtain ⟨ad313, e313, hx313_0, hx313_1, hx313_2, hx313_3, hx313_4, hx313_5⟩ := at_T85 (Kd.R_reads' HO_12.out).2.2 x16_7 p313 q313
                          cases e313
                          replace p313 := eq_true p313
                          replace q313 := eq_true q313
                          have p314 : 0 ≤ (x16_7 : Int) := of_decide_eq_true (by first | (with_reducible assumption) | assumption)
                          have q314 : x16_7 < (t310.length : Int) := of_decide_eq_true (by first | (with_reducible assumption) | assumption)
                          obtain ⟨ad314, e314, hx314_0, hx314_1, hx314_2, hx314_3, hx314_4, hx314_5⟩ := at_T85 (Kd.R_reads' HO_12.out).2.2 x16_7 p314 q314
                          obtain rfl : ad313 = ad314 := (by injection e314)
                          replace p314 := eq_true p314
                          replace q314 := eq_true q314
                          have p315 : 0 ≤ (x16_7 : Int) := of_decide_eq_true (by first | (with_reducible assumption) | assumption)
                          have q315 : x16_7 < (t310.length : Int) := of_decide_eq_true (by first | (with_reducible assumption) | assumption)
                          obtain ⟨ad315, e315, hx315_0, hx315_1, hx315_2, hx315_3, hx315_4, hx315_5⟩ := at_T85 (Kd.R_reads' HO_12.out).2.2 x16_7 p315 q315
                          obtain rfl : ad313 = ad315 := (by injection e315)
                          replace p315 := eq_true p315
                          replace q315 := eq_true q315
                          have p316 : 0 ≤ (x16_7 : Int) := of_decide_eq_true (by first | (with_reducible assumption) | assumption)
                          have q316 : x16_7 < (t310.length : Int) := of_decide_eq_true (by first | (with_reducible assumption) | assumption)
                          obtain ⟨ad316, e316, hx316_0, hx316_1, hx316_2, hx316_3, hx316_4, hx316_5⟩ := at_T85 (Kd.R_reads' HO_12.out).2.2 x16_7 p316 q316
                          obtain rfl : ad313 = ad316 := (by injection e316)
                          replace p316 := eq_true p316
                          replace q316 := eq_true q316
                          go_wp2_with (first | (go_at_call 35; (with_reducible refine (berthingref07_Of.calls kj20 ((rd_T85 t310 x16_7).f2) t317 _ A31.out).mono ?_); rintro e w42 ⟨v318, rfl, ho0, hb⟩; have n0_ := Aside0.mk (Kd.R_below (by (with_reducible repeat (first | apply Kd.R_alloc | apply Kd.R_drewN | apply Kd.R_drew)); exact HO_12.out) hb); have n1_ := Aside0.mk (Kd.R_lower ho0 (below_size (by repeat (first | (with_reducible first | exact HB.out | apply below_alloc | apply pw_below_drewN | apply below_drew1) | exact HB.out)))); have n2_ := Aside0.mk (below_step (by repeat (first | (with_reducible first | exact HB.out | apply below_alloc | apply pw_below_drewN | apply below_drew1) | exact HB.out)) hb); clear HO_12; clear HB; have HO_12 := n0_; have HO319 := n1_; have HB := n2_; clear n0_ n1_ n2_; (try clear hb); (try clear hb2); (try clear hk); (try clear hi); (try clear ho0); obtain ⟨Ao43, co43, eo43⟩ := Kd.R_slice HO319.out; subst eo43) | (go_at_call 36; (with_reducible refine (berthingref07_List_Has.calls kj20 _ _ t317 x13_1 false _ ?side1 ?side2 A32.out).mono ?_); (case side1 => repeat (first | exact (Kd.R_reads' HO319.out).2.2 | (with_reducible refine Kd.C_alloc ?_ _) | (with_reducible refine Kd.C_drewN ?_ _) | (with_reducible refine Kd.C_drew ?_))); (case side2 => exact (Kd.R_reads' HO319.out).2.1); rintro e w' ⟨rfl, ⟨nd, rfl⟩⟩))
                          go_roundg kj20
                          case measure => have := HK1.out; have := HJ7.out; have := HK3.out; have := HJ10.out; have := HJ13.out; have := HJ18.out; have := HK7.out; have := HJ20.out; omega
                          case rel => exact ⟨(x15_7), (wrap64 (x16_7 + 1)), (by first | rfl | (simp; done) | (simp [*]; done)), (by first | rfl | (simp; done) | (simp [*]; done)), H', ⟨by have := HK1.out; have := HJ7.out; have := HK3.out; have := HJ10.out; have := HJ13.out; have := HJ18.out; have := HK7.out; have := HJ20.out; omega⟩, ⟨by (with_reducible repeat (first | apply Kd.R_alloc | apply Kd.R_drewN | apply Kd.R_drew)); exact HO_12.out⟩, ⟨by repeat (first | (with_reducible first | exact HB.out | apply below_alloc | apply pw_below_drewN | apply below_drew1) | exact HB.out)⟩⟩
                        ·rw [if_neg c30] at H
                         have c30b0 : decide ((wrap64 (a3 + x14_3)) < ((rd_T85 t310 x16_7).f3.f1)) = false := decide_eq_false c30
                         clear c30
                         have H' := Aside0.mk H
                         clear H
                         obtain ⟨Ao44, co44, eo44⟩ := Kd.R_slice HO_12.out
                         subst eo44
                         have p313 : 0 ≤ (x16_7 : Int) := of_decide_eq_true (by first | (with_reducible assumption) | assumption)
                         have q313 : x16_7 < (t310.length : Int) := of_decide_eq_true (by first | (with_reducible assumption) | assumption)
                         obtain ⟨ad313, e313, hx313_0, hx313_1, hx313_2, hx313_3, hx313_4, hx313_5⟩ := at_T85 (Kd.R_reads' HO_12.out).2.2 x16_7 p313 q313
                         cases e313
                         replace p313 := eq_true p313
                         replace q313 := eq_true q313
                         have p314 : 0 ≤ (x16_7 : Int) := of_decide_eq_true (by first | (with_reducible assumption) | assumption)
                         have q314 : x16_7 < (t310.length : Int) := of_decide_eq_true (by first | (with_reducible assumption) | assumption)
                         obtain ⟨ad314, e314, hx314_0, hx314_1, hx314_2, hx314_3, hx314_4, hx314_5⟩ := at_T85 (Kd.R_reads' HO_12.out).2.2 x16_7 p314 q314
                         obtain rfl : ad313 = ad314 := (by injection e314)
                         replace p314 := eq_true p314
                         replace q314 := eq_true q314
                         have p315 : 0 ≤ (x16_7 : Int) := of_decide_eq_true (by first | (with_reducible assumption) | assumption)
                         have q315 : x16_7 < (t310.length : Int) := of_decide_eq_true (by first | (with_reducible assumption) | assumption)
                         obtain ⟨ad315, e315, hx315_0, hx315_1, hx315_2, hx315_3, hx315_4, hx315_5⟩ := at_T85 (Kd.R_reads' HO_12.out).2.2 x16_7 p315 q315
                         obtain rfl : ad313 = ad315 := (by injection e315)
                         replace p315 := eq_true p315
                         replace q315 := eq_true q315
                         go_wp2
                         go_roundg kj20
                         case measure => have := HK1.out; have := HJ7.out; have := HK3.out; have := HJ10.out; have := HJ13.out; have := HJ18.out; have := HK7.out; have := HJ20.out; omega
                         case rel => exact ⟨(x15_7), (wrap64 (x16_7 + 1)), (by first | rfl | (simp; done) | (simp [*]; done)), (by first | rfl | (simp; done) | (simp [*]; done)), H', ⟨by have := HK1.out; have := HJ7.out; have := HK3.out; have := HJ10.out; have := HJ13.out; have := HJ18.out; have := HK7.out; have := HJ20.out; omega⟩, ⟨by (with_reducible repeat (first | apply Kd.R_alloc | apply Kd.R_drewN | apply Kd.R_drew)); exact HO_12.out⟩, ⟨by repeat (first | (with_reducible first | exact HB.out | apply below_alloc | apply pw_below_drewN | apply below_drew1) | exact HB.out)⟩⟩
                       ·rw [if_neg c29] at H
                        have c29b0 : decide (((rd_T85 t310 x16_7).f3.f0) ≤ (wrap64 (a3 + x14_3))) = false := decide_eq_false c29
                        clear c29
                        have H' := Aside0.mk H
                        clear H
                        obtain ⟨Ao45, co45, eo45⟩ := Kd.R_slice HO_12.out
                        subst eo45
                        have p313 : 0 ≤ (x16_7 : Int) := of_decide_eq_true (by first | (with_reducible assumption) | assumption)
                        have q313 : x16_7 < (t310.length : Int) := of_decide_eq_true (by first | (with_reducible assumption) | assumption)
                        obtain ⟨ad313, e313, hx313_0, hx313_1, hx313_2, hx313_3, hx313_4, hx313_5⟩ := at_T85 (Kd.R_reads' HO_12.out).2.2 x16_7 p313 q313
                        cases e313
                        replace p313 := eq_true p313
                        replace q313 := eq_true q313
                        have p314 : 0 ≤ (x16_7 : Int) := of_decide_eq_true (by first | (with_reducible assumption) | assumption)
                        have q314 : x16_7 < (t310.length : Int) := of_decide_eq_true (by first | (with_reducible assumption) | assumption)
                        obtain ⟨ad314, e314, hx314_0, hx314_1, hx314_2, hx314_3, hx314_4, hx314_5⟩ := at_T85 (Kd.R_reads' HO_12.out).2.2 x16_7 p314 q314
                        obtain rfl : ad313 = ad314 := (by injection e314)
                        replace p314 := eq_true p314
                        replace q314 := eq_true q314
                        go_wp2
                        go_roundg kj20
                        case measure => have := HK1.out; have := HJ7.out; have := HK3.out; have := HJ10.out; have := HJ13.out; have := HJ18.out; have := HK7.out; have := HJ20.out; omega
                        case rel => exact ⟨(x15_7), (wrap64 (x16_7 + 1)), (by first | rfl | (simp; done) | (simp [*]; done)), (by first | rfl | (simp; done) | (simp [*]; done)), H', ⟨by have := HK1.out; have := HJ7.out; have := HK3.out; have := HJ10.out; have := HJ13.out; have := HJ18.out; have := HK7.out; have := HJ20.out; omega⟩, ⟨by (with_reducible repeat (first | apply Kd.R_alloc | apply Kd.R_drewN | apply Kd.R_drew)); exact HO_12.out⟩, ⟨by repeat (first | (with_reducible first | exact HB.out | apply below_alloc | apply pw_below_drewN | apply below_drew1) | exact HB.out)⟩⟩
                      ·rw [if_neg c28] at H
                       have c28b0 : (((rd_T85 t310 x16_7).f1) == a1) = false := beq_eq_false_iff_ne.mpr c28
                       have c28b1 : (((rd_T85 t310 x16_7).f1) != a1) = true := bne_iff_ne.mpr c28
                       have H' := Aside0.mk H
                       clear H
                       obtain ⟨Ao46, co46, eo46⟩ := Kd.R_slice HO_12.out
                       subst eo46
                       have p313 : 0 ≤ (x16_7 : Int) := of_decide_eq_true (by first | (with_reducible assumption) | assumption)
                       have q313 : x16_7 < (t310.length : Int) := of_decide_eq_true (by first | (with_reducible assumption) | assumption)
                       obtain ⟨ad313, e313, hx313_0, hx313_1, hx313_2, hx313_3, hx313_4, hx313_5⟩ := at_T85 (Kd.R_reads' HO_12.out).2.2 x16_7 p313 q313
                       cases e313
                       replace p313 := eq_true p313
                       replace q313 := eq_true q313
                       go_wp2
                       go_roundg kj20
                       case measure => have := HK1.out; have := HJ7.out; have := HK3.out; have := HJ10.out; have := HJ13.out; have := HJ18.out; have := HK7.out; have := HJ20.out; omega
                       case rel => exact ⟨(x15_7), (wrap64 (x16_7 + 1)), (by first | rfl | (simp; done) | (simp [*]; done)), (by first | rfl | (simp; done) | (simp [*]; done)), H', ⟨by have := HK1.out; have := HJ7.out; have := HK3.out; have := HJ10.out; have := HJ13.out; have := HJ18.out; have := HK7.out; have := HJ20.out; omega⟩, ⟨by (with_reducible repeat (first | apply Kd.R_alloc | apply Kd.R_drewN | apply Kd.R_drew)); exact HO_12.out⟩, ⟨by repeat (first | (with_reducible first | exact HB.out | apply below_alloc | apply pw_below_drewN | apply below_drew1) | exact HB.out)⟩⟩
                     ·rw [if_neg c27] at H
                      exact absurd H (by simp)
                    ·rw [if_neg c26] at H
                     exact absurd H (by simp)
                   ·replace c25 := Bool.eq_false_iff.mpr c25
                    subst c25
                    have H1 : (if x11_3.size + x15_7.size ≤ 9223372036854775807 then (berthingref32_Draw.l1 kj20 a1 a2 a3 a4 (x11_3 ++ x15_7) t310 x13_1 (wrap64 (x14_3 + 1))) else (none)) = some r := by rw [if_neg (show ¬ (false = true) by decide)] at H; exact H
                    clear H
                    have H := H1
                    clear H1
                    by_cases c47 : x11_3.size + x15_7.size ≤ 9223372036854775807
                    ·rw [if_pos c47] at H
                     have c47b0 := eq_true c47
                     have c47b1 : decide (x11_3.size + x15_7.size ≤ 9223372036854775807) = true := decide_eq_true c47
                     try have c47b2 : (9223372036854775807 < x11_3.size + x15_7.size) = False := eq_false (Nat.not_lt.2 c47)
                     have H' := Aside0.mk H
                     clear H
                     go_wp2
                     go_roundg kj20
                     case measure => have := HK1.out; have := HJ7.out; have := HK3.out; have := HJ10.out; have := HJ13.out; have := HJ18.out; have := HK7.out; have := HJ20.out; omega
                     case rel => exact ⟨(x11_3 ++ x15_7), (wrap64 (x14_3 + 1)), (by first | rfl | (simp; done) | (simp [*]; done)), (by first | rfl | (simp; done) | (simp [*]; done)), H', ⟨by have := HK1.out; have := HJ7.out; have := HK3.out; have := HJ10.out; have := HJ13.out; have := HJ18.out; have := HK7.out; have := HJ20.out; omega⟩, ⟨by (with_reducible repeat (first | apply Kd.R_alloc | apply Kd.R_drewN | apply Kd.R_drew)); exact HO_12.out⟩, ⟨by repeat (first | (with_reducible first | exact HB.out | apply below_alloc | apply pw_below_drewN | apply below_drew1) | exact HB.out)⟩⟩
                    ·rw [if_neg c47] at H
                     exact absurd H (by simp)
          ·replace c13 := Bool.eq_false_iff.mpr c13
           subst c13
           have H1 : (if x11_3.size + 1 ≤ 9223372036854775807 then (berthingref32_Draw.l0 kj10 a1 a2 a3 a4 (x11_3 ++ (⟨#[10]⟩ : ByteArray)) t310 (wrap64 (x13_1 + 1))) else (none)) = some r := by rw [if_neg (show ¬ (false = true) by decide)] at H; exact H
           clear H
           have H := H1
           clear H1
           by_cases c48 : x11_3.size + 1 ≤ 9223372036854775807
           ·rw [if_pos c48] at H
            have c48b0 := eq_true c48
            have c48b1 : decide (x11_3.size + 1 ≤ 9223372036854775807) = true := decide_eq_true c48
            try have c48b2 : (9223372036854775807 < x11_3.size + 1) = False := eq_false (Nat.not_lt.2 c48)
            have H' := Aside0.mk H
            clear H
            go_wp2
            go_roundg kj10
            case measure => have := HK1.out; have := HJ7.out; have := HK3.out; have := HJ10.out; omega
            case rel => exact ⟨(x11_3 ++ (⟨#[10]⟩ : ByteArray)), (wrap64 (x13_1 + 1)), (by first | rfl | (simp; done) | (simp [*]; done)), (by first | rfl | (simp; done) | (simp [*]; done)), H', ⟨by have := HK1.out; have := HJ7.out; have := HK3.out; have := HJ10.out; omega⟩, ⟨by (with_reducible repeat (first | apply Kd.R_alloc | apply Kd.R_drewN | apply Kd.R_drew)); exact HO_12.out⟩, ⟨by repeat (first | (with_reducible first | exact HB.out | apply below_alloc | apply pw_below_drewN | apply below_drew1) | exact HB.out)⟩⟩
           ·rw [if_neg c48] at H
            exact absurd H (by simp)
     ·replace c10 := Bool.eq_false_iff.mpr c10
      subst c10
      have H1 : (some x11_1) = some r := by rw [if_neg (show ¬ (false = true) by decide)] at H; exact H
      clear H
      have H := H1
      clear H1
      obtain rfl := Option.some.inj H
      go_wp2
      go_ret
      exact ⟨by first | rfl | (simp [errW_none, errW_some] <;> rfl) | (simp [*, errW_none, errW_some] <;> rfl), by repeat (first | (with_reducible first | exact HB.out | apply below_alloc | apply pw_below_drewN | apply below_drew1) | exact HB.out)⟩

end Go.Proofs.YtdpomgfibjlehaaDoor.PTr
