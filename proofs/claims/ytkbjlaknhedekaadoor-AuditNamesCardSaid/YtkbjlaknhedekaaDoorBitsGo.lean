/- Go's operations on uint64 over naturals. Conditions: those that each theorem states. -/
import Derived.Test.YtkbjlaknhedekaaDoorBitsLows
import Derived.Laws.BitsLemmas
import Derived.RowKit
set_option linter.unusedVariables false
set_option linter.unusedSimpArgs false
namespace Go.Proofs.BitsPlain
open Go Go.Proofs Go.RowKit

/-- the first without the second -/
def less (a b : Nat) : Nat := a ^^^ (a &&& b)

theorem testBit_less (a b i : Nat) : (less a b).testBit i = (a.testBit i && !b.testBit i) := by
  unfold less; rw [Nat.testBit_xor, Nat.testBit_and]; cases a.testBit i <;> cases b.testBit i <;> rfl

theorem less_lt {a b n : Nat} (ha : a < 2 ^ n) : less a b < 2 ^ n := by
  unfold less; exact Nat.xor_lt_two_pow ha (by rw [Nat.and_comm]; exact Nat.and_lt_two_pow _ ha)

theorem bits_less (a b : Nat) (ha : a < 18446744073709551616) (hb : b < 18446744073709551616) : Go.bits .andNot .u64 (a : Int) (b : Int) = ((less a b : Nat) : Int) := by
  have h1 : (BitVec.ofInt 64 (a : Int)).toNat = a := by rw [BitVec.ofInt_natCast, BitVec.toNat_ofNat]; exact Nat.mod_eq_of_lt (by omega)
  have h2 : (BitVec.ofInt 64 (b : Int)).toNat = b := by rw [BitVec.ofInt_natCast, BitVec.toNat_ofNat]; exact Nat.mod_eq_of_lt (by omega)
  have hl : less a b < 18446744073709551616 := less_lt (n := 64) ha
  show IntKind.u64.wrap ((BitVec.ofInt 64 (a : Int) &&& ~~~ BitVec.ofInt 64 (b : Int)).toNat : Int) = _
  have e : (BitVec.ofInt 64 (a : Int) &&& ~~~ BitVec.ofInt 64 (b : Int)).toNat = less a b := by
    apply Nat.eq_of_testBit_eq
    intro i
    rw [BitVec.toNat_and, Nat.testBit_and, h1, testBit_less]
    by_cases hi : i < 64
    · have := BitVec.getLsbD_not (x := BitVec.ofInt 64 (b : Int)) (i := i)
      rw [BitVec.getLsbD, BitVec.getLsbD, h2] at this
      rw [this]; simp [hi]
    · have : a.testBit i = false := Nat.testBit_lt_two_pow (Nat.lt_of_lt_of_le ha (Nat.pow_le_pow_right (n := 2) (by omega) (by omega : 64 ≤ i)))
      simp [this]
  rw [e, IntKind.wrap_u64]; omega

theorem ones_raw (x : Nat) (hx : x < 18446744073709551616) (s1 s2 s3 : Int)
    (e1 : s1 = IntKind.u64.wrap ((Go.bits .and .u64 ((x : Int) / 2) 6148914691236517205) + (Go.bits .and .u64 (x : Int) 6148914691236517205)))
    (e2 : s2 = IntKind.u64.wrap ((Go.bits .and .u64 (s1 / 4) 3689348814741910323) + (Go.bits .and .u64 s1 3689348814741910323)))
    (e3 : s3 = Go.bits .and .u64 (IntKind.u64.wrap ((s2 / 16) + s2)) 1085102592571150095) :
    s3 = ((sw3 (sw2 (sw1 x)) : Nat) : Int) := by
  obtain ⟨_, h1, h2, h3, h4⟩ := swar x hx
  have d : ∀ (a k : Nat), ((a : Int) / (k : Int)) = ((a / k : Nat) : Int) := fun a k => rfl
  have c1 : s1 = ((sw1 x : Nat) : Int) := by
    have q : ((x : Int) / 2) = ((x / 2 : Nat) : Int) := rfl
    rw [e1, q]
    rw [show (6148914691236517205 : Int) = ((6148914691236517205 : Nat) : Int) from rfl, bits_and_u64_nat _ _ (by omega) (by omega), bits_and_u64_nat _ _ hx (by omega), IntKind.wrap_u64]
    unfold sw1 at *; omega
  have c2 : s2 = ((sw2 (sw1 x) : Nat) : Int) := by
    have q : (((sw1 x : Nat) : Int) / 4) = ((sw1 x / 4 : Nat) : Int) := rfl
    rw [e2, c1, q]
    rw [show (3689348814741910323 : Int) = ((3689348814741910323 : Nat) : Int) from rfl, bits_and_u64_nat _ _ (by omega) (by omega), bits_and_u64_nat _ _ h1 (by omega), IntKind.wrap_u64]
    unfold sw2 at *; omega
  have q : (((sw2 (sw1 x) : Nat) : Int) / 16) = ((sw2 (sw1 x) / 16 : Nat) : Int) := rfl
  have w3 : IntKind.u64.wrap (((sw2 (sw1 x) / 16 : Nat) : Int) + ((sw2 (sw1 x) : Nat) : Int)) = ((sw2 (sw1 x) / 16 + sw2 (sw1 x) : Nat) : Int) := by rw [IntKind.wrap_u64]; omega
  rw [e3, c2, q, w3]
  rw [show (1085102592571150095 : Int) = ((1085102592571150095 : Nat) : Int) from rfl, bits_and_u64_nat _ _ h3 (by omega)]
  rfl

theorem i64_and127 (y : Int) (h0 : 0 ≤ y) (h1 : y < 2 ^ 62) : Go.bits .and .i64 y 127 = y % 128 :=
  bits_mask .i64 62 (by decide) (fun n h0 h1 => by rw [IntKind.wrap_i64]; omega) 7 (by decide) y h0 h1

theorem ones_end (x : Nat) (hx : x < 18446744073709551616) (s3 t u v : Int) (h3 : s3 = ((sw3 (sw2 (sw1 x)) : Nat) : Int))
    (et : t = IntKind.u64.wrap (s3 + s3 / 256)) (eu : u = IntKind.u64.wrap (t + t / 65536)) (ev : v = IntKind.u64.wrap (u + u / 4294967296)) :
    Go.bits .and .i64 (wrap64 v) 127 = ((pop x : Nat) : Int) := by
  obtain ⟨hp, _, _, _, h4⟩ := swar x hx
  generalize sw3 (sw2 (sw1 x)) = s at *
  have c1 : t = ((s + s / 256 : Nat) : Int) := by rw [et, h3, IntKind.wrap_u64]; omega
  have c2 : u = (((s + s / 256) + (s + s / 256) / 65536 : Nat) : Int) := by rw [eu, c1, IntKind.wrap_u64]; omega
  have c3 : v = ((((s + s / 256) + (s + s / 256) / 65536) + ((s + s / 256) + (s + s / 256) / 65536) / 4294967296 : Nat) : Int) := by rw [ev, c2, IntKind.wrap_u64]; omega
  have hv0 : 0 ≤ v := by rw [c3]; exact Int.natCast_nonneg _
  have hv1 : v < 2 ^ 62 := by rw [c3]; omega
  have hw : wrap64 v = v := by unfold wrap64; omega
  rw [hw, i64_and127 v hv0 hv1, ← hp]
  simp only [swf]
  rw [c3]; omega

/-- a node's bit; of others none -/
def bitOf (n : Nat) : Nat := if n < 64 then 2 ^ n else 0

theorem bitOf_lt (n : Nat) : bitOf n < 18446744073709551616 := by
  unfold bitOf; split
  · exact Nat.pow_lt_pow_right (a := 2) (m := n) (n := 64) (by omega) (by omega)
  · omega

theorem shl_bit (n : Nat) (hn : n < 64) : IntKind.u64.wrap (1 * 2 ^ min (n : Int).toNat IntKind.u64.bits) = ((2 ^ n : Nat) : Int) := by
  have hlt : 2 ^ n < 2 ^ 64 := Nat.pow_lt_pow_right (by omega) hn
  rw [Int.toNat_natCast, Nat.min_eq_left (by simp [IntKind.bits]; omega), Int.one_mul, IntKind.wrap_u64]
  have : ((2 : Int) ^ n) = ((2 ^ n : Nat) : Int) := by simp
  rw [this]
  generalize 2 ^ n = p at *
  omega

theorem or_lt (a b : Nat) (ha : a < 18446744073709551616) (hb : b < 18446744073709551616) : a ||| b < 18446744073709551616 := Nat.or_lt_two_pow (n := 64) ha hb

theorem or_two_pow : ∀ (n x : Nat), x.testBit n = false → x ||| 2 ^ n = x + 2 ^ n
  | 0, x, h => by
    have h0 : x % 2 = 0 := by simpa [Nat.testBit_zero] using h
    have e1 : (x ||| 1) / 2 = x / 2 ||| 0 := by rw [Nat.or_div_two]
    have e2 : (x ||| 1) % 2 = 1 := by
      have := Nat.or_mod_two_pow (a := x) (b := 1) (n := 1)
      rw [Nat.pow_one, h0] at this
      exact this
    have e1 : (x ||| 1) / 2 = x / 2 := by rw [e1, Nat.or_zero]
    simp only [Nat.pow_zero]
    omega
  | n + 1, x, h => by
    have h' : (x / 2).testBit n = false := by rw [Nat.testBit_succ] at h; exact h
    have ih := or_two_pow n (x / 2) h'
    have e1 : (x ||| 2 ^ (n + 1)) / 2 = x / 2 ||| 2 ^ n := by rw [Nat.or_div_two, Nat.pow_succ, Nat.mul_div_cancel _ (by omega)]
    have e2 : (x ||| 2 ^ (n + 1)) % 2 = x % 2 := by
      have := Nat.or_mod_two_pow (a := x) (b := 2 ^ (n + 1)) (n := 1)
      rw [Nat.pow_one, Nat.pow_succ, Nat.mul_mod_left, Nat.or_zero] at this
      rw [Nat.pow_succ]; exact this
    rw [ih] at e1
    rw [Nat.pow_succ] at *
    omega

theorem pop_or_bit (x n : Nat) (hn : n < 64) (h : x.testBit n = false) : pop (x ||| bitOf n) = pop x + 1 := by
  have e : x ||| bitOf n = x + 2 ^ n := by
    unfold bitOf; rw [if_pos hn]; exact or_two_pow n x h
  rw [e]; exact popR_add 64 n x hn h

end Go.Proofs.BitsPlain
