import Derived.Test.YtmdjhdnejmegfaaDoorPRollx4
set_option linter.unusedVariables false
set_option linter.unusedSimpArgs false
namespace Go.Proofs.YtmdjhdnejmegfaaDoor.RollLaw
open Go Go.Proofs Go.RowKit Go.Proofs.BitsPlain Go.Proofs.YtmdjhdnejmegfaaDoor.PRoll Go.Proofs.YtmdjhdnejmegfaaDoorW.PrintWords Go.Proofs.YtmdjhdnejmegfaaDoorW.PrintLast Go.Proofs.YtmdjhdnejmegfaaDoorW.PrintMore

theorem up {α : Type} {f : Nat → Option α} (hm : ∀ k, LeO (f k) (f (k + 1))) {k k' : Nat} {r : α} (h : f k = some r) (hk : k ≤ k') : f k' = some r := by
  induction hk with
  | refl => exact h
  | step _ ih => exact hm _ _ ih

/-! what the functions on sets come to, on naturals -/
theorem ones_f (x : Nat) (hx : x < 18446744073709551616) : bits_OnesCount64.f (x : Int) = some ((pop x : Nat) : Int) := by
  unfold bits_OnesCount64.f
  have h3 := ones_raw x hx _ _ _ rfl rfl rfl
  exact congrArg some (ones_end x hx _ _ _ _ h3 rfl rfl rfl)
theorem len_f (x : Nat) (hx : x < 18446744073709551616) : bits_Set_Len.f (x : Int) = some ((pop x : Nat) : Int) := by
  unfold bits_Set_Len.f; rw [ones_f x hx]; rfl
theorem bit_f (n : Nat) : bits_bit.f (n : Int) = some ((bitOf n : Nat) : Int) := by
  unfold bits_bit.f bitOf
  by_cases hn : n < 64
  · rw [if_neg (by omega), if_neg (by omega), if_pos (by omega), if_pos hn]
    exact congrArg some (shl_bit n hn)
  · rw [if_neg (by omega), if_pos (by omega), if_neg hn]; rfl
theorem with_f (o n : Nat) (ho : o < 18446744073709551616) : bits_Set_With.f (o : Int) (n : Int) = some ((o ||| bitOf n : Nat) : Int) := by
  unfold bits_Set_With.f; rw [bit_f n]; simp only [Option.bind_some]
  rw [bits_or_u64_nat o _ ho (bitOf_lt n)]
theorem without_f (o n : Nat) (ho : o < 18446744073709551616) : bits_Set_Without.f (o : Int) (n : Int) = some ((less o (bitOf n) : Nat) : Int) := by
  unfold bits_Set_Without.f; rw [bit_f n]; simp only [Option.bind_some]
  rw [bits_less o _ ho (bitOf_lt n)]
theorem and_f (a b : Nat) (ha : a < 18446744073709551616) (hb : b < 18446744073709551616) : bits_Set_And.f (a : Int) (b : Int) = some ((a &&& b : Nat) : Int) := by
  unfold bits_Set_And.f; rw [bits_and_u64_nat a b ha hb]
theorem or_f (a b : Nat) (ha : a < 18446744073709551616) (hb : b < 18446744073709551616) : bits_Set_Or.f (a : Int) (b : Int) = some ((a ||| b : Nat) : Int) := by
  unfold bits_Set_Or.f; rw [bits_or_u64_nat a b ha hb]
theorem less_f (a b : Nat) (ha : a < 18446744073709551616) (hb : b < 18446744073709551616) : bits_Set_Less.f (a : Int) (b : Int) = some ((less a b : Nat) : Int) := by
  unfold bits_Set_Less.f; rw [bits_less a b ha hb]

/-- the first n nodes -/
def first (n : Nat) : Nat := 2 ^ n - 1
theorem testBit_first (n i : Nat) : (first n).testBit i = decide (i < n) := Nat.testBit_two_pow_sub_one n i
theorem first_lt {n : Nat} (hn : n ≤ 64) : first n < 18446744073709551616 := by
  unfold first
  have : 2 ^ n ≤ 2 ^ 64 := Nat.pow_le_pow_right (by omega) hn
  have := Nat.two_pow_pos n
  omega
theorem first_f (n : Nat) (h1 : 1 ≤ n) (hn : n ≤ 64) : bits_First.f (n : Int) = some ((first n : Nat) : Int) := by
  unfold bits_First.f
  rw [if_neg (by omega)]
  by_cases h : n = 64
  · subst h; rw [if_pos (by omega)]; rfl
  · rw [if_neg (by omega), if_pos (by omega)]
    have e : shl .u64 1 (n : Int) = ((2 ^ n : Nat) : Int) := shl_bit n (by omega)
    rw [e]
    have hp := Nat.two_pow_pos n
    have hl : 2 ^ n < 2 ^ 64 := Nat.pow_lt_pow_right (by omega) (by omega : n < 64)
    rw [IntKind.wrap_u64]
    unfold first
    generalize 2 ^ n = p at *
    congr 1; omega

theorem eq_zero_of_bits {x : Nat} (h : ∀ i, x.testBit i = false) : x = 0 := Nat.eq_of_testBit_eq (by simpa using h)

theorem over_f (W F : Int) (d h n : Nat) (hd : d < 18446744073709551616) (h1 : 1 ≤ n) (hn : n ≤ 64) : roll_Roll_Over.f W F (d : Int) (h : Int) (n : Int) = some (decide (less (first n) d = 0)) := by
  unfold roll_Roll_Over.f
  rw [first_f n h1 hn]; simp only [Option.bind_some]
  rw [less_f _ _ (first_lt hn) hd]; simp only [Option.bind_some]
  congr 1
  by_cases h0 : less (first n) d = 0
  · simp [h0]
  · simp [h0]

theorem hold_f (W F : Int) (d h s : Nat) (hh : h < 18446744073709551616) (hs : s < 18446744073709551616) : roll_Roll_Hold.f W F (d : Int) (h : Int) (s : Int) = some (W, F, (d : Int), ((h ||| s : Nat) : Int)) := by
  unfold roll_Roll_Hold.f
  rw [or_f _ _ hh hs]; rfl

theorem and_bit (s n : Nat) (hn : n < 64) : (s &&& bitOf n = 0) ↔ s.testBit n = false := by
  unfold bitOf; rw [if_pos hn]
  constructor
  · intro h
    have := congrArg (fun x => Nat.testBit x n) h
    simpa [Nat.testBit_and, Nat.testBit_two_pow_self] using this
  · intro h
    apply eq_zero_of_bits
    intro i
    rw [Nat.testBit_and, Nat.testBit_two_pow]
    by_cases e : n = i
    · subst e; simp [h]
    · simp [e]

theorem has_f (s n : Nat) (hs : s < 18446744073709551616) (hn : n < 64) : bits_Set_Has.f (s : Int) (n : Int) = some (s.testBit n) := by
  unfold bits_Set_Has.f; rw [bit_f n]; simp only [Option.bind_some]
  rw [bits_and_u64_nat s _ hs (bitOf_lt n)]
  congr 1
  have h := and_bit s n hn
  cases hb : s.testBit n with
  | false => rw [h.2 hb]; rfl
  | true =>
    have : s &&& bitOf n ≠ 0 := fun e => by rw [h.1 e] at hb; cases hb
    simp only [bne_iff_ne, ne_eq]; omega

theorem back_f (W F : Int) (d h n : Nat) (hd : d < 18446744073709551616) (hh : h < 18446744073709551616) (hn : n < 64) :
    roll_Roll_Back.f W F (d : Int) (h : Int) (n : Int) = some (W, F, ((if h.testBit n then d ||| bitOf n else d : Nat) : Int), ((if h.testBit n then less h (bitOf n) else h : Nat) : Int)) := by
  unfold roll_Roll_Back.f
  rw [has_f h n hh hn]; simp only [Option.bind_some]
  cases hb : h.testBit n with
  | false => simp
  | true =>
    rw [if_pos rfl, without_f h n hh]; simp only [Option.bind_some]
    rw [with_f d n hd]; simp

theorem right_f (W d h n : Nat) (hW : 1 ≤ W ∧ W ≤ 64) (h1 : 1 ≤ n) (hn : n ≤ 64) (hd : d < 18446744073709551616) (hh : h < 18446744073709551616)
    (ha : d &&& h = 0) (hl : less (d ||| h) (first n) = 0) (hp : pop h ≤ W) (k : Nat) : roll_Roll_Right.f (k + 1) (W : Int) 0 (d : Int) (h : Int) (n : Int) = some true := by
  unfold roll_Roll_Right.f
  rw [if_neg (by omega), if_neg (by omega), if_neg (by omega)]
  unfold roll_Roll_Right.j0
  rw [decide_eq_false (by omega)]
  simp only [Bool.false_eq_true, if_false]
  rw [if_neg (by omega), if_neg (by omega), and_f d h hd hh]; simp only [Option.bind_some]
  rw [ha, if_pos (by rfl), or_f d h hd hh]; simp only [Option.bind_some]
  rw [first_f n h1 hn]; simp only [Option.bind_some]
  rw [less_f _ _ (or_lt d h hd hh) (first_lt hn)]; simp only [Option.bind_some]
  rw [hl, if_pos (by rfl), len_f h hh]; simp only [Option.bind_some]
  rw [decide_eq_true (by omega)]

theorem one_f : berthinglaw21_one.f 10 = some true := by decide +kernel

end Go.Proofs.YtmdjhdnejmegfaaDoor.RollLaw
