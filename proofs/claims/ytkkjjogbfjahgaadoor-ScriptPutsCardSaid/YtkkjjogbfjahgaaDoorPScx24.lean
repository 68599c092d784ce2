/- By a program of this session (the print, with contracts written by hand let in), key Sc: what the functions come to as Lean functions, and the contracts that lead from the Go code to them. Conditions: those of the statements. -/
import Derived.Test.YtkkjjogbfjahgaaDoorPScx0
import Derived.Lib.SliceRun
namespace Go.Proofs.YtkkjjogbfjahgaaDoor.PSc
open Go.RowKit Go.Proofs.YtkkjjogbfjahgaaDoorW.PrintWords Go.Proofs.YtkkjjogbfjahgaaDoorW.PrintLast Go.Proofs.YtkkjjogbfjahgaaDoorW.PrintMore
attribute [local go_sem] max2_int min2_int max_two min_two max_three min_three max_four min_four   -- for this text's walks alone
set_option linter.unusedVariables false
set_option linter.unusedSimpArgs false

/-! ### berthingref22_Fields: function 47 -/
def berthingref22_Fields.j0 : Nat → Int → Bool → Option (ByteArray)
 | 0, _, _ => none
 | k + 1, x3, x6 => if x6 = true then (some (⟨#[73, 45, 45, 45, 45, 45, 45, 45, 45, 45, 45]⟩ : ByteArray)) else (if x3 = 5 then (some (⟨#[73, 45, 45, 45, 45, 45, 45, 45, 84, 45, 45]⟩ : ByteArray)) else (if x3 = 6 then (some (⟨#[45, 45, 80, 87, 45, 45, 45, 45, 84, 77, 45]⟩ : ByteArray)) else (if x3 = 7 then (some (⟨#[73, 45, 80, 45, 45, 45, 45, 45, 45, 45, 45]⟩ : ByteArray)) else (if x3 = 8 then (some (⟨#[45, 45, 80, 87, 45, 45, 45, 45, 45, 45, 45]⟩ : ByteArray)) else (if x3 = 9 then (some (⟨#[45, 45, 80, 45, 45, 45, 45, 45, 45, 45, 45]⟩ : ByteArray)) else (if x3 = 10 then (some (⟨#[45, 45, 45, 45, 45, 45, 45, 45, 84, 45, 45]⟩ : ByteArray)) else (if x3 = 11 then (some (⟨#[45, 45, 80, 45, 45, 45, 110, 119, 45, 45, 45]⟩ : ByteArray)) else (some (⟨#[]⟩ : ByteArray)))))))))
def berthingref22_Fields.f (k : Nat) (a0 : Int) : Option (ByteArray) := if a0 = 1 then (some (⟨#[45, 85, 80, 87, 78, 65, 45, 45, 84, 45, 72]⟩ : ByteArray)) else (if a0 = 2 then (berthingref22_Fields.j0 k a0 (a0 == 2)) else (if a0 = 3 then (berthingref22_Fields.j0 k a0 (a0 == 3)) else (if a0 = 4 then (berthingref22_Fields.j0 k a0 (a0 == 4)) else (berthingref22_Fields.j0 k a0 (a0 == 12)))))
theorem berthingref22_Fields.mono_l : ∀ k, (∀ y0 y1, LeO (berthingref22_Fields.j0 k y0 y1) (berthingref22_Fields.j0 (k + 1) y0 y1))
 | 0 => fun _ _ r h => by simp [berthingref22_Fields.j0] at h
 | k + 1 => by
  have ih0 := berthingref22_Fields.mono_l k
  ·intro y0 y1
   unfold berthingref22_Fields.j0
   repeat' first
   | (with_reducible exact ih0 _ _)
   | (with_reducible exact LeO.refl _)
   | (with_reducible exact LeO.none _)
   | (with_reducible refine LeO.ite ?_ ?_)
   | (with_reducible refine LeO.bind ?_ (fun _ => ?_))
   | exact ih0 _ _
   | exact LeO.none _
   | refine LeO.ite ?_ ?_
   | refine LeO.bind ?_ (fun _ => ?_)
theorem berthingref22_Fields.mono : ∀ a0 k, LeO (berthingref22_Fields.f k a0) (berthingref22_Fields.f (k + 1) a0) := by
 intro a0 k
 have ih0 := berthingref22_Fields.mono_l k
 unfold berthingref22_Fields.f
 repeat' first
   | (with_reducible exact ih0 _ _)
   | (with_reducible exact LeO.refl _)
   | (with_reducible exact LeO.none _)
   | (with_reducible refine LeO.ite ?_ ?_)
   | (with_reducible refine LeO.bind ?_ (fun _ => ?_))
   | exact ih0 _ _
   | exact LeO.none _
   | refine LeO.ite ?_ ?_
   | refine LeO.bind ?_ (fun _ => ?_)
set_option maxHeartbeats 8000000 in
set_option maxRecDepth 100000 in
theorem berthingref22_Fields.calls (k : Nat) (a0 : Int) (r : ByteArray) (w : World) (h : berthingref22_Fields.f k a0 = some r) :
  Calls Tryd.prog 47 #[.int .i64 a0] w fun e w' => e = .returned (.string r) ∧ Drawn0 w w' := by
 have H : (if a0 = 1 then (some (⟨#[45, 85, 80, 87, 78, 65, 45, 45, 84, 45, 72]⟩ : ByteArray)) else (if a0 = 2 then (berthingref22_Fields.j0 k a0 (a0 == 2)) else (if a0 = 3 then (berthingref22_Fields.j0 k a0 (a0 == 3)) else (if a0 = 4 then (berthingref22_Fields.j0 k a0 (a0 == 4)) else (berthingref22_Fields.j0 k a0 (a0 == 12)))))) = some r := h
 clear h
 by_cases c2 : a0 = 1
 ·rw [if_pos c2] at H
  have c2b0 : (a0 == 1) = true := beq_iff_eq.mpr c2
  have c2b1 : (a0 != 1) = false := bne_eq_false_iff_eq.mpr c2
  clear c2
  obtain rfl := Option.some.inj H
  go_enter Tryd.func47, Tryd.ntmps47
  go_wp2
  go_ret
  exact ⟨by first | rfl | (simp; done) | (simp; unfold wrap64; omega) | (simp [*]; done), by repeat (first | exact Drawn0.refl _ | apply Drawn0.step)⟩
 ·rw [if_neg c2] at H
  have c2b0 : (a0 == 1) = false := beq_eq_false_iff_ne.mpr c2
  have c2b1 : (a0 != 1) = true := bne_iff_ne.mpr c2
  have HC3 := Aside0.mk H
  clear H
  go_enter Tryd.func47, Tryd.ntmps47
  go_upto_if 6 with (fail)
  go_cut [6] (fun v6 wc => ∃ (kq : Nat) (x6_2 : Bool), v6 = .bool x6_2 ∧ Aside0 (berthingref22_Fields.j0 kq a0 x6_2 = some r) ∧ Aside0 (kq ≤ k) ∧ Drawn0 w wc)
  case first =>
   have H := HC3.out
   clear HC3
   by_cases c4 : a0 = 2
   ·rw [if_pos c4] at H
    have c4b0 : (a0 == 2) = true := beq_iff_eq.mpr c4
    have c4b1 : (a0 != 2) = false := bne_eq_false_iff_eq.mpr c4
    clear c4
    (first | rw [c4b0] | (simp only [i64_w, i32_w]; rw [c4b0]) | skip)
    have H' := Aside0.mk H
    clear H
    go_wp2
    go_meet
    case rel => exact ⟨_, ((a0 == 2)), (by first | rfl | (simp; done) | (simp; unfold wrap64; omega) | (simp [*]; done)), H', ⟨by first | omega | exact Nat.le_refl _⟩, by repeat (first | exact Drawn0.refl _ | apply Drawn0.step)⟩
   ·rw [if_neg c4] at H
    have c4b0 : (a0 == 2) = false := beq_eq_false_iff_ne.mpr c4
    have c4b1 : (a0 != 2) = true := bne_iff_ne.mpr c4
    (first | rw [c4b0] | (simp only [i64_w, i32_w]; rw [c4b0]) | skip)
    by_cases c5 : a0 = 3
    ·rw [if_pos c5] at H
     have c5b0 : (a0 == 3) = true := beq_iff_eq.mpr c5
     have c5b1 : (a0 != 3) = false := bne_eq_false_iff_eq.mpr c5
     clear c5
     have H' := Aside0.mk H
     clear H
     go_wp2
     go_meet
     case rel => exact ⟨_, ((a0 == 3)), (by first | rfl | (simp; done) | (simp; unfold wrap64; omega) | (simp [*]; done)), H', ⟨by first | omega | exact Nat.le_refl _⟩, by repeat (first | exact Drawn0.refl _ | apply Drawn0.step)⟩
    ·rw [if_neg c5] at H
     have c5b0 : (a0 == 3) = false := beq_eq_false_iff_ne.mpr c5
     have c5b1 : (a0 != 3) = true := bne_iff_ne.mpr c5
     by_cases c6 : a0 = 4
     ·rw [if_pos c6] at H
      have c6b0 : (a0 == 4) = true := beq_iff_eq.mpr c6
      have c6b1 : (a0 != 4) = false := bne_eq_false_iff_eq.mpr c6
      clear c6
      have H' := Aside0.mk H
      clear H
      go_wp2
      go_meet
      case rel => exact ⟨_, ((a0 == 4)), (by first | rfl | (simp; done) | (simp; unfold wrap64; omega) | (simp [*]; done)), H', ⟨by first | omega | exact Nat.le_refl _⟩, by repeat (first | exact Drawn0.refl _ | apply Drawn0.step)⟩
     ·rw [if_neg c6] at H
      have c6b0 : (a0 == 4) = false := beq_eq_false_iff_ne.mpr c6
      have c6b1 : (a0 != 4) = true := bne_iff_ne.mpr c6
      have H' := Aside0.mk H
      clear H
      go_wp2
      go_meet
      case rel => exact ⟨_, ((a0 == 12)), (by first | rfl | (simp; done) | (simp; unfold wrap64; omega) | (simp [*]; done)), H', ⟨by first | omega | exact Nat.le_refl _⟩, by repeat (first | exact Drawn0.refl _ | apply Drawn0.step)⟩
  case rest =>
   clear HC3
   try clear c2
   try clear c2b0
   try clear c2b1
   try clear p2
   try clear c4
   try clear c4b0
   try clear c4b1
   try clear c5
   try clear c5b0
   try clear c5b1
   try clear c6
   try clear c6b0
   try clear c6b1
   try clear p6
   obtain ⟨kq, x6_2, rfl, HA, HJ2, ⟨mc2, rfl⟩⟩ := hcut
   cases kq with
   | zero => exact absurd HA.out (by simp [berthingref22_Fields.j0])
   | succ kj2 =>
    have H := HA.out
    clear HA
    simp only [berthingref22_Fields.j0] at H
    by_cases c7 : x6_2 = true
    ·subst c7
     have H1 : (some (⟨#[73, 45, 45, 45, 45, 45, 45, 45, 45, 45, 45]⟩ : ByteArray)) = some r := by rw [if_pos rfl] at H; exact H
     clear H
     have H := H1
     clear H1
     obtain rfl := Option.some.inj H
     go_wp2
     go_ret
     exact ⟨by first | rfl | (simp; done) | (simp; unfold wrap64; omega) | (simp [*]; done), by repeat (first | exact Drawn0.refl _ | apply Drawn0.step)⟩
    ·replace c7 := Bool.eq_false_iff.mpr c7
     subst c7
     have H1 : (if a0 = 5 then (some (⟨#[73, 45, 45, 45, 45, 45, 45, 45, 84, 45, 45]⟩ : ByteArray)) else (if a0 = 6 then (some (⟨#[45, 45, 80, 87, 45, 45, 45, 45, 84, 77, 45]⟩ : ByteArray)) else (if a0 = 7 then (some (⟨#[73, 45, 80, 45, 45, 45, 45, 45, 45, 45, 45]⟩ : ByteArray)) else (if a0 = 8 then (some (⟨#[45, 45, 80, 87, 45, 45, 45, 45, 45, 45, 45]⟩ : ByteArray)) else (if a0 = 9 then (some (⟨#[45, 45, 80, 45, 45, 45, 45, 45, 45, 45, 45]⟩ : ByteArray)) else (if a0 = 10 then (some (⟨#[45, 45, 45, 45, 45, 45, 45, 45, 84, 45, 45]⟩ : ByteArray)) else (if a0 = 11 then (some (⟨#[45, 45, 80, 45, 45, 45, 110, 119, 45, 45, 45]⟩ : ByteArray)) else (some (⟨#[]⟩ : ByteArray))))))))) = some r := by rw [if_neg (show ¬ (false = true) by decide)] at H; exact H
     clear H
     have H := H1
     clear H1
     by_cases c8 : a0 = 5
     ·rw [if_pos c8] at H
      have c8b0 : (a0 == 5) = true := beq_iff_eq.mpr c8
      have c8b1 : (a0 != 5) = false := bne_eq_false_iff_eq.mpr c8
      clear c8
      obtain rfl := Option.some.inj H
      go_wp2
      go_ret
      exact ⟨by first | rfl | (simp; done) | (simp; unfold wrap64; omega) | (simp [*]; done), by repeat (first | exact Drawn0.refl _ | apply Drawn0.step)⟩
     ·rw [if_neg c8] at H
      have c8b0 : (a0 == 5) = false := beq_eq_false_iff_ne.mpr c8
      have c8b1 : (a0 != 5) = true := bne_iff_ne.mpr c8
      by_cases c9 : a0 = 6
      ·rw [if_pos c9] at H
       have c9b0 : (a0 == 6) = true := beq_iff_eq.mpr c9
       have c9b1 : (a0 != 6) = false := bne_eq_false_iff_eq.mpr c9
       clear c9
       obtain rfl := Option.some.inj H
       go_wp2
       go_ret
       exact ⟨by first | rfl | (simp; done) | (simp; unfold wrap64; omega) | (simp [*]; done), by repeat (first | exact Drawn0.refl _ | apply Drawn0.step)⟩
      ·rw [if_neg c9] at H
       have c9b0 : (a0 == 6) = false := beq_eq_false_iff_ne.mpr c9
       have c9b1 : (a0 != 6) = true := bne_iff_ne.mpr c9
       by_cases c10 : a0 = 7
       ·rw [if_pos c10] at H
        have c10b0 : (a0 == 7) = true := beq_iff_eq.mpr c10
        have c10b1 : (a0 != 7) = false := bne_eq_false_iff_eq.mpr c10
        clear c10
        obtain rfl := Option.some.inj H
        go_wp2
        go_ret
        exact ⟨by first | rfl | (simp; done) | (simp; unfold wrap64; omega) | (simp [*]; done), by repeat (first | exact Drawn0.refl _ | apply Drawn0.step)⟩
       ·rw [if_neg c10] at H
        have c10b0 : (a0 == 7) = false := beq_eq_false_iff_ne.mpr c10
        have c10b1 : (a0 != 7) = true := bne_iff_ne.mpr c10
        by_cases c11 : a0 = 8
        ·rw [if_pos c11] at H
         have c11b0 : (a0 == 8) = true := beq_iff_eq.mpr c11
         have c11b1 : (a0 != 8) = false := bne_eq_false_iff_eq.mpr c11
         clear c11
         obtain rfl := Option.some.inj H
         go_wp2
         go_ret
         exact ⟨by first | rfl | (simp; done) | (simp; unfold wrap64; omega) | (simp [*]; done), by repeat (first | exact Drawn0.refl _ | apply Drawn0.step)⟩
        ·rw [if_neg c11] at H
         have c11b0 : (a0 == 8) = false := beq_eq_false_iff_ne.mpr c11
         have c11b1 : (a0 != 8) = true := bne_iff_ne.mpr c11
         by_cases c12 : a0 = 9
         ·rw [if_pos c12] at H
          have c12b0 : (a0 == 9) = true := beq_iff_eq.mpr c12
          have c12b1 : (a0 != 9) = false := bne_eq_false_iff_eq.mpr c12
          clear c12
          obtain rfl := Option.some.inj H
          go_wp2
          go_ret
          exact ⟨by first | rfl | (simp; done) | (simp; unfold wrap64; omega) | (simp [*]; done), by repeat (first | exact Drawn0.refl _ | apply Drawn0.step)⟩
         ·rw [if_neg c12] at H
          have c12b0 : (a0 == 9) = false := beq_eq_false_iff_ne.mpr c12
          have c12b1 : (a0 != 9) = true := bne_iff_ne.mpr c12
          by_cases c13 : a0 = 10
          ·rw [if_pos c13] at H
           have c13b0 : (a0 == 10) = true := beq_iff_eq.mpr c13
           have c13b1 : (a0 != 10) = false := bne_eq_false_iff_eq.mpr c13
           clear c13
           obtain rfl := Option.some.inj H
           go_wp2
           go_ret
           exact ⟨by first | rfl | (simp; done) | (simp; unfold wrap64; omega) | (simp [*]; done), by repeat (first | exact Drawn0.refl _ | apply Drawn0.step)⟩
          ·rw [if_neg c13] at H
           have c13b0 : (a0 == 10) = false := beq_eq_false_iff_ne.mpr c13
           have c13b1 : (a0 != 10) = true := bne_iff_ne.mpr c13
           by_cases c14 : a0 = 11
           ·rw [if_pos c14] at H
            have c14b0 : (a0 == 11) = true := beq_iff_eq.mpr c14
            have c14b1 : (a0 != 11) = false := bne_eq_false_iff_eq.mpr c14
            clear c14
            obtain rfl := Option.some.inj H
            go_wp2
            go_ret
            exact ⟨by first | rfl | (simp; done) | (simp; unfold wrap64; omega) | (simp [*]; done), by repeat (first | exact Drawn0.refl _ | apply Drawn0.step)⟩
           ·rw [if_neg c14] at H
            have c14b0 : (a0 == 11) = false := beq_eq_false_iff_ne.mpr c14
            have c14b1 : (a0 != 11) = true := bne_iff_ne.mpr c14
            obtain rfl := Option.some.inj H
            go_wp2
            go_ret
            exact ⟨by first | rfl | (simp; done) | (simp; unfold wrap64; omega) | (simp [*]; done), by repeat (first | exact Drawn0.refl _ | apply Drawn0.step)⟩

end Go.Proofs.YtkkjjogbfjahgaaDoor.PSc
