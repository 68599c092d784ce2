/- The nodes of a set, in plain Lean. Conditions: those that each theorem states. -/
import Derived.Test.YtkbjlaknhedekaaDoorBitsPlain
set_option linter.unusedVariables false
set_option linter.unusedSimpArgs false
namespace Go.Proofs.BitsPlain
open Go

/-- the numbers of the bits that are set, rising -/
def lowsFrom (x : Nat) (a n : Nat) : List Nat := (List.range' a n).filter fun i => x.testBit i
def lows (x : Nat) : List Nat := lowsFrom x 0 64

theorem lowsFrom_cons (p : Nat → Bool) (c : Nat) (hc : p c = true) : ∀ (n a : Nat), a ≤ c → c < a + n → (∀ i, a ≤ i → i < c → p i = false) →
    (List.range' a n).filter p = c :: (List.range' a n).filter fun i => p i && i != c
  | 0, a, h1, h2, _ => by omega
  | n + 1, a, h1, h2, h3 => by
    rw [List.range'_succ]
    by_cases hac : a = c
    · subst hac
      rw [List.filter_cons_of_pos (by simpa using hc), List.filter_cons_of_neg (by simp)]
      congr 1
      apply List.filter_congr
      intro i hi
      have := List.mem_range'.1 hi
      have hne : i ≠ a := by obtain ⟨j, hj, e⟩ := this; omega
      simp [hne]
    · rw [List.filter_cons_of_neg (by simpa using h3 a (Nat.le_refl _) (by omega)), List.filter_cons_of_neg (by simp [h3 a (Nat.le_refl _) (by omega)])]
      exact lowsFrom_cons p c hc n (a + 1) (by omega) (by omega) (fun i h4 h5 => h3 i (by omega) h5)

theorem testBit_low (c m i : Nat) : (2 ^ c * (2 * m + 1)).testBit i = (decide (i = c) || (2 ^ c * (2 * m)).testBit i) := by
  simp only [Nat.testBit_two_pow_mul]
  by_cases h : c ≤ i
  · simp only [h, decide_true, Bool.true_and]
    obtain ⟨k, rfl⟩ : ∃ k, i = c + k := ⟨i - c, by omega⟩
    rw [show c + k - c = k by omega]
    cases k with
    | zero => simp [Nat.testBit_zero]
    | succ k => simp only [Nat.testBit_succ]; rw [show (2 * m + 1) / 2 = m by omega, show 2 * m / 2 = m by omega]; simp
  · have h' : i ≠ c := by omega
    simp [h, h']

theorem low_clear (c m : Nat) : 2 ^ c * (2 * m + 1) &&& (2 ^ c * (2 * m + 1) - 1) = 2 ^ c * (2 * m) := by
  have hp : 0 < 2 ^ c := Nat.two_pow_pos c
  have e : 2 ^ c * (2 * m + 1) - 1 = 2 ^ c * (2 * m) + (2 ^ c - 1) := by rw [Nat.mul_add, Nat.mul_one]; omega
  rw [e]
  apply Nat.eq_of_testBit_eq
  intro i
  rw [Nat.testBit_and, testBit_low, Nat.testBit_two_pow_mul_add _ (by omega : 2 ^ c - 1 < 2 ^ c), Nat.testBit_two_pow_mul]
  by_cases h : i < c
  · have h1 : i ≠ c := by omega
    have h2 : ¬ c ≤ i := by omega
    simp [h, h1, h2]
  · have h2 : c ≤ i := by omega
    simp only [h, if_false, h2, decide_true, Bool.true_and]
    by_cases h1 : i = c
    · subst h1; simp
    · simp [h1]

/-- The least bit, and what is left without it. -/
theorem lows_step (x : Nat) (hx : x < 18446744073709551616) (h0 : x ≠ 0) :
    lows x = Lib.ctz 64 x :: lows (x &&& (x - 1)) ∧ x &&& (x - 1) < x ∧ Lib.ctz 64 x < 64 := by
  have hc : Lib.ctz 64 x = Lib.ctzFrom 64 x := by simp [Lib.ctz, h0]
  obtain ⟨m, hm, hlt⟩ := Lib.ctzFrom_spec 64 x (by omega) hx
  rw [hc]
  generalize Lib.ctzFrom 64 x = c at *
  subst hm
  have hp : 0 < 2 ^ c := Nat.two_pow_pos c
  rw [low_clear]
  refine ⟨?_, by rw [Nat.mul_add, Nat.mul_one]; omega, hlt⟩
  unfold lows lowsFrom
  have hlow : ∀ i, i < c → (2 ^ c * (2 * m + 1)).testBit i = false := fun i hi => by
    rw [Nat.testBit_two_pow_mul]; simp; omega
  rw [lowsFrom_cons (fun i => (2 ^ c * (2 * m + 1)).testBit i) c (by show (2 ^ c * (2 * m + 1)).testBit c = true; rw [testBit_low]; simp) 64 0 (by omega) (by omega) (fun i _ hi => hlow i hi)]
  congr 1
  apply List.filter_congr
  intro i _
  simp only [testBit_low]
  by_cases h : i = c
  · subst h
    rw [Nat.testBit_two_pow_mul]; simp
  · simp [h]

theorem lows_zero : lows 0 = [] := by
  unfold lows lowsFrom
  rw [List.filter_eq_nil_iff]
  simp

theorem mem_lows {x i : Nat} : i ∈ lows x ↔ i < 64 ∧ x.testBit i = true := by
  unfold lows lowsFrom
  rw [List.mem_filter, List.mem_range']
  constructor
  · rintro ⟨⟨j, hj, rfl⟩, h⟩; exact ⟨by omega, by simpa using h⟩
  · rintro ⟨h, h'⟩; exact ⟨⟨i, h, by omega⟩, by simpa using h'⟩

theorem lows_nodup (x : Nat) : (lows x).Nodup := (List.nodup_range' (s := 0) (n := 64) (step := 1) (by omega)).filter _

end Go.Proofs.BitsPlain
