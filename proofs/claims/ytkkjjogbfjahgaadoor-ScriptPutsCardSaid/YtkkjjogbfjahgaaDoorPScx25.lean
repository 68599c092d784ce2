/- By a program of this session (the print, with contracts written by hand let in), key Sc: what the functions come to as Lean functions, and the contracts that lead from the Go code to them. Conditions: those of the statements. -/
import Derived.Test.YtkkjjogbfjahgaaDoorPScx0
import Derived.Lib.SliceRun
namespace Go.Proofs.YtkkjjogbfjahgaaDoor.PSc
open Go.RowKit Go.Proofs.YtkkjjogbfjahgaaDoorW.PrintWords Go.Proofs.YtkkjjogbfjahgaaDoorW.PrintLast Go.Proofs.YtkkjjogbfjahgaaDoorW.PrintMore
attribute [local go_sem] max2_int min2_int max_two min_two max_three min_three max_four min_four   -- for this text's walks alone
set_option linter.unusedVariables false
set_option linter.unusedSimpArgs false

/-! ### berthingref22_may: function 48 -/
def berthingref22_may.f (a0 : Int) (a1 : Int) (a2 : Int) : Option (Bool) := if a1 = 73 then (if a2 ≥ 1 then (some (decide (a2 ≤ 1073741824))) else (some false)) else (if a1 = 85 then (if a2 ≥ 1 then (some (decide (a2 ≤ 16))) else (some false)) else (if a1 = 80 then (if a2 ≥ 0 then (some (decide (a2 ≤ 3))) else (some false)) else (if a1 = 87 then (if a2 ≥ 1 then (some (decide (a2 ≤ 64))) else (some false)) else (if a1 = 78 then (if a2 ≥ (-100) then (some (decide (a2 ≤ 100))) else (some false)) else (if a1 = 65 then (if a2 ≥ 0 then (some (decide (a2 ≤ 1073741824))) else (some false)) else (if a1 = 110 then (if a2 ≥ 0 then (some (decide (a2 ≤ 63))) else (some false)) else (if a1 = 119 then (if a2 ≥ 0 then (some (decide (a2 ≤ 4))) else (some false)) else (if a1 = 84 then (if a0 = 1 then (if a2 ≥ 1 then (some (decide (a2 ≤ 1048576))) else (some false)) else (if a0 = 5 then (if a2 ≥ 1 then (some (decide (a2 ≤ 1048576))) else (some false)) else (if a2 ≥ 0 then (some (decide (a2 < 1099511627776))) else (some false)))) else (if a1 = 77 then (if a2 ≥ 1 then (some (decide (a2 < 1099511627776))) else (some false)) else (if a1 = 72 then (if a2 = 0 then (some true) else (some (a2 == 1))) else (some true)))))))))))
set_option maxHeartbeats 8000000 in
set_option maxRecDepth 100000 in
theorem berthingref22_may.calls (a0 : Int) (a1 : Int) (a2 : Int) (r : Bool) (w : World) (h : berthingref22_may.f a0 a1 a2 = some r) :
  Calls Tryd.prog 48 #[.int .i64 a0, .int .u8 a1, .int .i64 a2] w fun e w' => e = .returned (.bool r) ∧ Drawn0 w w' := by
 have H : (if a1 = 73 then (if a2 ≥ 1 then (some (decide (a2 ≤ 1073741824))) else (some false)) else (if a1 = 85 then (if a2 ≥ 1 then (some (decide (a2 ≤ 16))) else (some false)) else (if a1 = 80 then (if a2 ≥ 0 then (some (decide (a2 ≤ 3))) else (some false)) else (if a1 = 87 then (if a2 ≥ 1 then (some (decide (a2 ≤ 64))) else (some false)) else (if a1 = 78 then (if a2 ≥ (-100) then (some (decide (a2 ≤ 100))) else (some false)) else (if a1 = 65 then (if a2 ≥ 0 then (some (decide (a2 ≤ 1073741824))) else (some false)) else (if a1 = 110 then (if a2 ≥ 0 then (some (decide (a2 ≤ 63))) else (some false)) else (if a1 = 119 then (if a2 ≥ 0 then (some (decide (a2 ≤ 4))) else (some false)) else (if a1 = 84 then (if a0 = 1 then (if a2 ≥ 1 then (some (decide (a2 ≤ 1048576))) else (some false)) else (if a0 = 5 then (if a2 ≥ 1 then (some (decide (a2 ≤ 1048576))) else (some false)) else (if a2 ≥ 0 then (some (decide (a2 < 1099511627776))) else (some false)))) else (if a1 = 77 then (if a2 ≥ 1 then (some (decide (a2 < 1099511627776))) else (some false)) else (if a1 = 72 then (if a2 = 0 then (some true) else (some (a2 == 1))) else (some true)))))))))))) = some r := h
 clear h
 by_cases c4 : a1 = 73
 ·rw [if_pos c4] at H
  have c4b0 : (a1 == 73) = true := beq_iff_eq.mpr c4
  have c4b1 : (a1 != 73) = false := bne_eq_false_iff_eq.mpr c4
  clear c4
  by_cases c5 : a2 ≥ 1
  ·rw [if_pos c5] at H
   have c5b0 : decide (1 ≤ a2) = true := decide_eq_true c5
   clear c5
   obtain rfl := Option.some.inj H
   go_enter Tryd.func48, Tryd.ntmps48
   go_wp2
   go_ret
   exact ⟨by first | rfl | (simp; done) | (simp; unfold wrap64; omega) | (simp [*]; done), by repeat (first | exact Drawn0.refl _ | apply Drawn0.step)⟩
  ·rw [if_neg c5] at H
   have c5b0 : decide (1 ≤ a2) = false := decide_eq_false c5
   clear c5
   obtain rfl := Option.some.inj H
   go_enter Tryd.func48, Tryd.ntmps48
   go_wp2
   go_ret
   exact ⟨by first | rfl | (simp; done) | (simp; unfold wrap64; omega) | (simp [*]; done), by repeat (first | exact Drawn0.refl _ | apply Drawn0.step)⟩
 ·rw [if_neg c4] at H
  have c4b0 : (a1 == 73) = false := beq_eq_false_iff_ne.mpr c4
  have c4b1 : (a1 != 73) = true := bne_iff_ne.mpr c4
  by_cases c6 : a1 = 85
  ·rw [if_pos c6] at H
   have c6b0 : (a1 == 85) = true := beq_iff_eq.mpr c6
   have c6b1 : (a1 != 85) = false := bne_eq_false_iff_eq.mpr c6
   clear c6
   by_cases c7 : a2 ≥ 1
   ·rw [if_pos c7] at H
    have c7b0 : decide (1 ≤ a2) = true := decide_eq_true c7
    clear c7
    obtain rfl := Option.some.inj H
    go_enter Tryd.func48, Tryd.ntmps48
    go_wp2
    go_ret
    exact ⟨by first | rfl | (simp; done) | (simp; unfold wrap64; omega) | (simp [*]; done), by repeat (first | exact Drawn0.refl _ | apply Drawn0.step)⟩
   ·rw [if_neg c7] at H
    have c7b0 : decide (1 ≤ a2) = false := decide_eq_false c7
    clear c7
    obtain rfl := Option.some.inj H
    go_enter Tryd.func48, Tryd.ntmps48
    go_wp2
    go_ret
    exact ⟨by first | rfl | (simp; done) | (simp; unfold wrap64; omega) | (simp [*]; done), by repeat (first | exact Drawn0.refl _ | apply Drawn0.step)⟩
  ·rw [if_neg c6] at H
   have c6b0 : (a1 == 85) = false := beq_eq_false_iff_ne.mpr c6
   have c6b1 : (a1 != 85) = true := bne_iff_ne.mpr c6
   by_cases c8 : a1 = 80
   ·rw [if_pos c8] at H
    have c8b0 : (a1 == 80) = true := beq_iff_eq.mpr c8
    have c8b1 : (a1 != 80) = false := bne_eq_false_iff_eq.mpr c8
    clear c8
    by_cases c9 : a2 ≥ 0
    ·rw [if_pos c9] at H
     have c9b0 : decide (0 ≤ a2) = true := decide_eq_true c9
     clear c9
     obtain rfl := Option.some.inj H
     go_enter Tryd.func48, Tryd.ntmps48
     go_wp2
     go_ret
     exact ⟨by first | rfl | (simp; done) | (simp; unfold wrap64; omega) | (simp [*]; done), by repeat (first | exact Drawn0.refl _ | apply Drawn0.step)⟩
    ·rw [if_neg c9] at H
     have c9b0 : decide (0 ≤ a2) = false := decide_eq_false c9
     clear c9
     obtain rfl := Option.some.inj H
     go_enter Tryd.func48, Tryd.ntmps48
     go_wp2
     go_ret
     exact ⟨by first | rfl | (simp; done) | (simp; unfold wrap64; omega) | (simp [*]; done), by repeat (first | exact Drawn0.refl _ | apply Drawn0.step)⟩
   ·rw [if_neg c8] at H
    have c8b0 : (a1 == 80) = false := beq_eq_false_iff_ne.mpr c8
    have c8b1 : (a1 != 80) = true := bne_iff_ne.mpr c8
    by_cases c10 : a1 = 87
    ·rw [if_pos c10] at H
     have c10b0 : (a1 == 87) = true := beq_iff_eq.mpr c10
     have c10b1 : (a1 != 87) = false := bne_eq_false_iff_eq.mpr c10
     clear c10
     by_cases c11 : a2 ≥ 1
     ·rw [if_pos c11] at H
      have c11b0 : decide (1 ≤ a2) = true := decide_eq_true c11
      clear c11
      obtain rfl := Option.some.inj H
      go_enter Tryd.func48, Tryd.ntmps48
      go_wp2
      go_ret
      exact ⟨by first | rfl | (simp; done) | (simp; unfold wrap64; omega) | (simp [*]; done), by repeat (first | exact Drawn0.refl _ | apply Drawn0.step)⟩
     ·rw [if_neg c11] at H
      have c11b0 : decide (1 ≤ a2) = false := decide_eq_false c11
      clear c11
      obtain rfl := Option.some.inj H
      go_enter Tryd.func48, Tryd.ntmps48
      go_wp2
      go_ret
      exact ⟨by first | rfl | (simp; done) | (simp; unfold wrap64; omega) | (simp [*]; done), by repeat (first | exact Drawn0.refl _ | apply Drawn0.step)⟩
    ·rw [if_neg c10] at H
     have c10b0 : (a1 == 87) = false := beq_eq_false_iff_ne.mpr c10
     have c10b1 : (a1 != 87) = true := bne_iff_ne.mpr c10
     by_cases c12 : a1 = 78
     ·rw [if_pos c12] at H
      have c12b0 : (a1 == 78) = true := beq_iff_eq.mpr c12
      have c12b1 : (a1 != 78) = false := bne_eq_false_iff_eq.mpr c12
      clear c12
      by_cases c13 : a2 ≥ (-100)
      ·rw [if_pos c13] at H
       have c13b0 : decide ((-100) ≤ a2) = true := decide_eq_true c13
       clear c13
       obtain rfl := Option.some.inj H
       go_enter Tryd.func48, Tryd.ntmps48
       go_wp2
       go_ret
       exact ⟨by first | rfl | (simp; done) | (simp; unfold wrap64; omega) | (simp [*]; done), by repeat (first | exact Drawn0.refl _ | apply Drawn0.step)⟩
      ·rw [if_neg c13] at H
       have c13b0 : decide ((-100) ≤ a2) = false := decide_eq_false c13
       clear c13
       obtain rfl := Option.some.inj H
       go_enter Tryd.func48, Tryd.ntmps48
       go_wp2
       go_ret
       exact ⟨by first | rfl | (simp; done) | (simp; unfold wrap64; omega) | (simp [*]; done), by repeat (first | exact Drawn0.refl _ | apply Drawn0.step)⟩
     ·rw [if_neg c12] at H
      have c12b0 : (a1 == 78) = false := beq_eq_false_iff_ne.mpr c12
      have c12b1 : (a1 != 78) = true := bne_iff_ne.mpr c12
      by_cases c14 : a1 = 65
      ·rw [if_pos c14] at H
       have c14b0 : (a1 == 65) = true := beq_iff_eq.mpr c14
       have c14b1 : (a1 != 65) = false := bne_eq_false_iff_eq.mpr c14
       clear c14
       by_cases c15 : a2 ≥ 0
       ·rw [if_pos c15] at H
        have c15b0 : decide (0 ≤ a2) = true := decide_eq_true c15
        clear c15
        obtain rfl := Option.some.inj H
        go_enter Tryd.func48, Tryd.ntmps48
        go_wp2
        go_ret
        exact ⟨by first | rfl | (simp; done) | (simp; unfold wrap64; omega) | (simp [*]; done), by repeat (first | exact Drawn0.refl _ | apply Drawn0.step)⟩
       ·rw [if_neg c15] at H
        have c15b0 : decide (0 ≤ a2) = false := decide_eq_false c15
        clear c15
        obtain rfl := Option.some.inj H
        go_enter Tryd.func48, Tryd.ntmps48
        go_wp2
        go_ret
        exact ⟨by first | rfl | (simp; done) | (simp; unfold wrap64; omega) | (simp [*]; done), by repeat (first | exact Drawn0.refl _ | apply Drawn0.step)⟩
      ·rw [if_neg c14] at H
       have c14b0 : (a1 == 65) = false := beq_eq_false_iff_ne.mpr c14
       have c14b1 : (a1 != 65) = true := bne_iff_ne.mpr c14
       by_cases c16 : a1 = 110
       ·rw [if_pos c16] at H
        have c16b0 : (a1 == 110) = true := beq_iff_eq.mpr c16
        have c16b1 : (a1 != 110) = false := bne_eq_false_iff_eq.mpr c16
        clear c16
        by_cases c17 : a2 ≥ 0
        ·rw [if_pos c17] at H
         have c17b0 : decide (0 ≤ a2) = true := decide_eq_true c17
         clear c17
         obtain rfl := Option.some.inj H
         go_enter Tryd.func48, Tryd.ntmps48
         go_wp2
         go_ret
         exact ⟨by first | rfl | (simp; done) | (simp; unfold wrap64; omega) | (simp [*]; done), by repeat (first | exact Drawn0.refl _ | apply Drawn0.step)⟩
        ·rw [if_neg c17] at H
         have c17b0 : decide (0 ≤ a2) = false := decide_eq_false c17
         clear c17
         obtain rfl := Option.some.inj H
         go_enter Tryd.func48, Tryd.ntmps48
         go_wp2
         go_ret
         exact ⟨by first | rfl | (simp; done) | (simp; unfold wrap64; omega) | (simp [*]; done), by repeat (first | exact Drawn0.refl _ | apply Drawn0.step)⟩
       ·rw [if_neg c16] at H
        have c16b0 : (a1 == 110) = false := beq_eq_false_iff_ne.mpr c16
        have c16b1 : (a1 != 110) = true := bne_iff_ne.mpr c16
        by_cases c18 : a1 = 119
        ·rw [if_pos c18] at H
         have c18b0 : (a1 == 119) = true := beq_iff_eq.mpr c18
         have c18b1 : (a1 != 119) = false := bne_eq_false_iff_eq.mpr c18
         clear c18
         by_cases c19 : a2 ≥ 0
         ·rw [if_pos c19] at H
          have c19b0 : decide (0 ≤ a2) = true := decide_eq_true c19
          clear c19
          obtain rfl := Option.some.inj H
          go_enter Tryd.func48, Tryd.ntmps48
          go_wp2
          go_ret
          exact ⟨by first | rfl | (simp; done) | (simp; unfold wrap64; omega) | (simp [*]; done), by repeat (first | exact Drawn0.refl _ | apply Drawn0.step)⟩
         ·rw [if_neg c19] at H
          have c19b0 : decide (0 ≤ a2) = false := decide_eq_false c19
          clear c19
          obtain rfl := Option.some.inj H
          go_enter Tryd.func48, Tryd.ntmps48
          go_wp2
          go_ret
          exact ⟨by first | rfl | (simp; done) | (simp; unfold wrap64; omega) | (simp [*]; done), by repeat (first | exact Drawn0.refl _ | apply Drawn0.step)⟩
        ·rw [if_neg c18] at H
         have c18b0 : (a1 == 119) = false := beq_eq_false_iff_ne.mpr c18
         have c18b1 : (a1 != 119) = true := bne_iff_ne.mpr c18
         by_cases c20 : a1 = 84
         ·rw [if_pos c20] at H
          have c20b0 : (a1 == 84) = true := beq_iff_eq.mpr c20
          have c20b1 : (a1 != 84) = false := bne_eq_false_iff_eq.mpr c20
          clear c20
          by_cases c21 : a0 = 1
          ·rw [if_pos c21] at H
           have c21b0 : (a0 == 1) = true := beq_iff_eq.mpr c21
           have c21b1 : (a0 != 1) = false := bne_eq_false_iff_eq.mpr c21
           clear c21
           by_cases c22 : a2 ≥ 1
           ·rw [if_pos c22] at H
            have c22b0 : decide (1 ≤ a2) = true := decide_eq_true c22
            clear c22
            obtain rfl := Option.some.inj H
            go_enter Tryd.func48, Tryd.ntmps48
            go_wp2
            go_ret
            exact ⟨by first | rfl | (simp; done) | (simp; unfold wrap64; omega) | (simp [*]; done), by repeat (first | exact Drawn0.refl _ | apply Drawn0.step)⟩
           ·rw [if_neg c22] at H
            have c22b0 : decide (1 ≤ a2) = false := decide_eq_false c22
            clear c22
            obtain rfl := Option.some.inj H
            go_enter Tryd.func48, Tryd.ntmps48
            go_wp2
            go_ret
            exact ⟨by first | rfl | (simp; done) | (simp; unfold wrap64; omega) | (simp [*]; done), by repeat (first | exact Drawn0.refl _ | apply Drawn0.step)⟩
          ·rw [if_neg c21] at H
           have c21b0 : (a0 == 1) = false := beq_eq_false_iff_ne.mpr c21
           have c21b1 : (a0 != 1) = true := bne_iff_ne.mpr c21
           by_cases c23 : a0 = 5
           ·rw [if_pos c23] at H
            have c23b0 : (a0 == 5) = true := beq_iff_eq.mpr c23
            have c23b1 : (a0 != 5) = false := bne_eq_false_iff_eq.mpr c23
            clear c23
            by_cases c24 : a2 ≥ 1
            ·rw [if_pos c24] at H
             have c24b0 : decide (1 ≤ a2) = true := decide_eq_true c24
             clear c24
             obtain rfl := Option.some.inj H
             go_enter Tryd.func48, Tryd.ntmps48
             go_wp2
             go_ret
             exact ⟨by first | rfl | (simp; done) | (simp; unfold wrap64; omega) | (simp [*]; done), by repeat (first | exact Drawn0.refl _ | apply Drawn0.step)⟩
            ·rw [if_neg c24] at H
             have c24b0 : decide (1 ≤ a2) = false := decide_eq_false c24
             clear c24
             obtain rfl := Option.some.inj H
             go_enter Tryd.func48, Tryd.ntmps48
             go_wp2
             go_ret
             exact ⟨by first | rfl | (simp; done) | (simp; unfold wrap64; omega) | (simp [*]; done), by repeat (first | exact Drawn0.refl _ | apply Drawn0.step)⟩
           ·rw [if_neg c23] at H
            have c23b0 : (a0 == 5) = false := beq_eq_false_iff_ne.mpr c23
            have c23b1 : (a0 != 5) = true := bne_iff_ne.mpr c23
            by_cases c25 : a2 ≥ 0
            ·rw [if_pos c25] at H
             have c25b0 : decide (0 ≤ a2) = true := decide_eq_true c25
             clear c25
             obtain rfl := Option.some.inj H
             go_enter Tryd.func48, Tryd.ntmps48
             go_wp2
             go_ret
             exact ⟨by first | rfl | (simp; done) | (simp; unfold wrap64; omega) | (simp [*]; done), by repeat (first | exact Drawn0.refl _ | apply Drawn0.step)⟩
            ·rw [if_neg c25] at H
             have c25b0 : decide (0 ≤ a2) = false := decide_eq_false c25
             clear c25
             obtain rfl := Option.some.inj H
             go_enter Tryd.func48, Tryd.ntmps48
             go_wp2
             go_ret
             exact ⟨by first | rfl | (simp; done) | (simp; unfold wrap64; omega) | (simp [*]; done), by repeat (first | exact Drawn0.refl _ | apply Drawn0.step)⟩
         ·rw [if_neg c20] at H
          have c20b0 : (a1 == 84) = false := beq_eq_false_iff_ne.mpr c20
          have c20b1 : (a1 != 84) = true := bne_iff_ne.mpr c20
          by_cases c26 : a1 = 77
          ·rw [if_pos c26] at H
           have c26b0 : (a1 == 77) = true := beq_iff_eq.mpr c26
           have c26b1 : (a1 != 77) = false := bne_eq_false_iff_eq.mpr c26
           clear c26
           by_cases c27 : a2 ≥ 1
           ·rw [if_pos c27] at H
            have c27b0 : decide (1 ≤ a2) = true := decide_eq_true c27
            clear c27
            obtain rfl := Option.some.inj H
            go_enter Tryd.func48, Tryd.ntmps48
            go_wp2
            go_ret
            exact ⟨by first | rfl | (simp; done) | (simp; unfold wrap64; omega) | (simp [*]; done), by repeat (first | exact Drawn0.refl _ | apply Drawn0.step)⟩
           ·rw [if_neg c27] at H
            have c27b0 : decide (1 ≤ a2) = false := decide_eq_false c27
            clear c27
            obtain rfl := Option.some.inj H
            go_enter Tryd.func48, Tryd.ntmps48
            go_wp2
            go_ret
            exact ⟨by first | rfl | (simp; done) | (simp; unfold wrap64; omega) | (simp [*]; done), by repeat (first | exact Drawn0.refl _ | apply Drawn0.step)⟩
          ·rw [if_neg c26] at H
           have c26b0 : (a1 == 77) = false := beq_eq_false_iff_ne.mpr c26
           have c26b1 : (a1 != 77) = true := bne_iff_ne.mpr c26
           by_cases c28 : a1 = 72
           ·rw [if_pos c28] at H
            have c28b0 : (a1 == 72) = true := beq_iff_eq.mpr c28
            have c28b1 : (a1 != 72) = false := bne_eq_false_iff_eq.mpr c28
            clear c28
            by_cases c29 : a2 = 0
            ·rw [if_pos c29] at H
             have c29b0 : (a2 == 0) = true := beq_iff_eq.mpr c29
             have c29b1 : (a2 != 0) = false := bne_eq_false_iff_eq.mpr c29
             clear c29
             obtain rfl := Option.some.inj H
             go_enter Tryd.func48, Tryd.ntmps48
             go_wp2
             go_ret
             exact ⟨by first | rfl | (simp; done) | (simp; unfold wrap64; omega) | (simp [*]; done), by repeat (first | exact Drawn0.refl _ | apply Drawn0.step)⟩
            ·rw [if_neg c29] at H
             have c29b0 : (a2 == 0) = false := beq_eq_false_iff_ne.mpr c29
             have c29b1 : (a2 != 0) = true := bne_iff_ne.mpr c29
             obtain rfl := Option.some.inj H
             go_enter Tryd.func48, Tryd.ntmps48
             go_wp2
             go_ret
             exact ⟨by first | rfl | (simp; done) | (simp; unfold wrap64; omega) | (simp [*]; done), by repeat (first | exact Drawn0.refl _ | apply Drawn0.step)⟩
           ·rw [if_neg c28] at H
            have c28b0 : (a1 == 72) = false := beq_eq_false_iff_ne.mpr c28
            have c28b1 : (a1 != 72) = true := bne_iff_ne.mpr c28
            obtain rfl := Option.some.inj H
            go_enter Tryd.func48, Tryd.ntmps48
            go_wp2
            go_ret
            exact ⟨by first | rfl | (simp; done) | (simp; unfold wrap64; omega) | (simp [*]; done), by repeat (first | exact Drawn0.refl _ | apply Drawn0.step)⟩

end Go.Proofs.YtkkjjogbfjahgaaDoor.PSc
