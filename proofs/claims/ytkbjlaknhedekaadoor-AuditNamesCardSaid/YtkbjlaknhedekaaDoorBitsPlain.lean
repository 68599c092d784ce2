/- Counting set bits, in plain Lean. Conditions: those that each theorem states. -/
import Derived.Laws.Bits64b
import Derived.Lib.TrailingZeros
set_option linter.unusedVariables false
set_option linter.unusedSimpArgs false
namespace Go.Proofs.BitsPlain
open Go

/-- how many of the first k bits are set -/
def popR : Nat → Nat → Nat
  | 0, _ => 0
  | k + 1, x => x % 2 + popR k (x / 2)

def pop (x : Nat) : Nat := popR 64 x

theorem popR_zero (k : Nat) : popR k 0 = 0 := by induction k with
  | zero => rfl
  | succ k ih => simp [popR, ih]

theorem popR_add (k n x : Nat) (hn : n < k) (h : x.testBit n = false) : popR k (x + 2 ^ n) = popR k x + 1 := by
  induction k generalizing n x with
  | zero => omega
  | succ k ih =>
    cases n with
    | zero =>
      have h0 : x % 2 = 0 := by simpa [Nat.testBit_zero] using h
      simp only [popR, Nat.pow_zero]
      have e1 : (x + 1) % 2 = 1 := by omega
      have e2 : (x + 1) / 2 = x / 2 := by omega
      rw [e1, e2]; omega
    | succ n =>
      have e1 : (x + 2 ^ (n + 1)) % 2 = x % 2 := by rw [Nat.pow_succ]; omega
      have e2 : (x + 2 ^ (n + 1)) / 2 = x / 2 + 2 ^ n := by rw [Nat.pow_succ]; omega
      have h' : (x / 2).testBit n = false := by rw [Nat.testBit_succ] at h; exact h
      simp only [popR, e1, e2, ih n _ (by omega) h']
      omega

theorem popR_le (k n x : Nat) (hx : x < 2 ^ n) : popR k x ≤ n := by
  induction k generalizing n x with
  | zero => simp [popR]
  | succ k ih =>
    cases n with
    | zero => have : x = 0 := by simpa using hx
              subst this; simp [popR_zero]
    | succ n =>
      have := ih n (x / 2) (by rw [Nat.pow_succ] at hx; omega)
      simp only [popR]; omega

theorem popR_split (a k x : Nat) : popR (a + k) x = popR a x + popR k (x / 2 ^ a) := by
  induction a generalizing x with
  | zero => simp [popR]
  | succ a ih =>
    rw [show a + 1 + k = (a + k) + 1 by omega]
    simp only [popR, ih]
    rw [Nat.div_div_eq_div_mul, ← Nat.pow_succ', Nat.succ_eq_add_one]
    omega

theorem popR_mod (a x : Nat) : popR a (x % 2 ^ a) = popR a x := by
  induction a generalizing x with
  | zero => rfl
  | succ a ih =>
    simp only [popR]
    have e1 : x % 2 ^ (a + 1) % 2 = x % 2 := by rw [Nat.pow_succ']; exact Nat.mod_mul_right_mod ..
    have e2 : x % 2 ^ (a + 1) / 2 = (x / 2) % 2 ^ a := by rw [Nat.pow_succ']; exact Nat.mod_mul_right_div_self ..
    rw [e1, e2, ih]

theorem and_split (a b c d : Nat) (ha : a < 256) (hc : c < 256) : (a + 256 * b) &&& (c + 256 * d) = (a &&& c) + 256 * (b &&& d) := by
  have e : ∀ p q : Nat, p < 256 → p + 256 * q = 2 ^ 8 * q + p := by intros; omega
  have hac : a &&& c < 256 := Nat.and_lt_two_pow (n := 8) _ hc
  rw [e a b ha, e c d hc, e _ _ hac]
  apply Nat.eq_of_testBit_eq
  intro i
  rw [Nat.testBit_and, Nat.testBit_two_pow_mul_add _ ha, Nat.testBit_two_pow_mul_add _ hc, Nat.testBit_two_pow_mul_add _ hac]
  split <;> simp


/-- The SWAR steps of math/bits.OnesCount64, on naturals. -/
def sw1 (x : Nat) : Nat := (x / 2 &&& 6148914691236517205) + (x &&& 6148914691236517205)
def sw2 (x : Nat) : Nat := (x / 4 &&& 3689348814741910323) + (x &&& 3689348814741910323)
def sw3 (x : Nat) : Nat := (x / 16 + x) &&& 1085102592571150095

def c1 (b : Nat) : Nat := (b / 2 &&& 85) + (b &&& 85)
def d1 (c : Nat) : Nat := (c / 4 &&& 51) + (c &&& 51)

/-- eight bytes -/
def by8 (a b c d e f g h : Nat) : Nat := a + 256 * (b + 256 * (c + 256 * (d + 256 * (e + 256 * (f + 256 * (g + 256 * h))))))

theorem and8 (a b c d e f g h a' b' c' d' e' f' g' h' : Nat) (ha : a < 256) (hb : b < 256) (hc : c < 256) (hd : d < 256) (he : e < 256) (hf : f < 256) (hg : g < 256)
    (ha' : a' < 256) (hb' : b' < 256) (hc' : c' < 256) (hd' : d' < 256) (he' : e' < 256) (hf' : f' < 256) (hg' : g' < 256) :
    by8 a b c d e f g h &&& by8 a' b' c' d' e' f' g' h' = by8 (a &&& a') (b &&& b') (c &&& c') (d &&& d') (e &&& e') (f &&& f') (g &&& g') (h &&& h') := by
  unfold by8
  rw [and_split _ _ _ _ ha ha', and_split _ _ _ _ hb hb', and_split _ _ _ _ hc hc', and_split _ _ _ _ hd hd', and_split _ _ _ _ he he', and_split _ _ _ _ hf hf', and_split _ _ _ _ hg hg']

theorem bytes8 (x : Nat) (hx : x < 18446744073709551616) : ∃ a b c d e f g h, a < 256 ∧ b < 256 ∧ c < 256 ∧ d < 256 ∧ e < 256 ∧ f < 256 ∧ g < 256 ∧ h < 256 ∧ x = by8 a b c d e f g h := by
  refine ⟨x % 256, x / 256 % 256, x / 65536 % 256, x / 16777216 % 256, x / 4294967296 % 256, x / 1099511627776 % 256, x / 281474976710656 % 256, x / 72057594037927936, ?_⟩
  unfold by8
  omega

theorem m1_fact : ∀ (b : Fin 256) (k : Fin 2), (b.val / 2 + 128 * k.val) &&& 85 = b.val / 2 &&& 85 := by decide +kernel
theorem m1 (b k : Nat) (hb : b < 256) (hk : k < 2) : (b / 2 + 128 * k) &&& 85 = b / 2 &&& 85 := m1_fact ⟨b, hb⟩ ⟨k, hk⟩
theorem m2_fact : ∀ (b : Fin 256) (k : Fin 4), (b.val / 4 + 64 * k.val) &&& 51 = b.val / 4 &&& 51 := by decide +kernel
theorem m2 (b k : Nat) (hb : b < 256) (hk : k < 4) : (b / 4 + 64 * k) &&& 51 = b / 4 &&& 51 := m2_fact ⟨b, hb⟩ ⟨k, hk⟩
theorem c1_fact : ∀ b : Fin 256, c1 b.val < 256 ∧ d1 (c1 b.val) % 16 ≤ 4 ∧ d1 (c1 b.val) / 16 ≤ 4 ∧ d1 (c1 b.val) % 16 + d1 (c1 b.val) / 16 = popR 8 b.val := by decide +kernel
theorem c1_lt (b : Nat) (hb : b < 256) : c1 b < 256 := (c1_fact ⟨b, hb⟩).1
theorem d1_of (b : Nat) (hb : b < 256) : d1 (c1 b) % 16 ≤ 4 ∧ d1 (c1 b) / 16 ≤ 4 ∧ d1 (c1 b) % 16 + d1 (c1 b) / 16 = popR 8 b := (c1_fact ⟨b, hb⟩).2

theorem sw1_by8 (a b c d e f g h : Nat) (ha : a < 256) (hb : b < 256) (hc : c < 256) (hd : d < 256) (he : e < 256) (hf : f < 256) (hg : g < 256) (hh : h < 256) :
    sw1 (by8 a b c d e f g h) = by8 (c1 a) (c1 b) (c1 c) (c1 d) (c1 e) (c1 f) (c1 g) (c1 h) := by
  have e0 : by8 a b c d e f g h / 2 = by8 (a / 2 + 128 * (b % 2)) (b / 2 + 128 * (c % 2)) (c / 2 + 128 * (d % 2)) (d / 2 + 128 * (e % 2)) (e / 2 + 128 * (f % 2)) (f / 2 + 128 * (g % 2)) (g / 2 + 128 * (h % 2)) (h / 2) := by unfold by8; omega
  have em : (6148914691236517205 : Nat) = by8 85 85 85 85 85 85 85 85 := by decide
  unfold sw1
  rw [e0, em, and8 _ _ _ _ _ _ _ _ _ _ _ _ _ _ _ _ (by omega) (by omega) (by omega) (by omega) (by omega) (by omega) (by omega) (by omega) (by omega) (by omega) (by omega) (by omega) (by omega) (by omega),
    and8 _ _ _ _ _ _ _ _ _ _ _ _ _ _ _ _ ha hb hc hd he hf hg (by omega) (by omega) (by omega) (by omega) (by omega) (by omega) (by omega),
    m1 _ _ ha (by omega), m1 _ _ hb (by omega), m1 _ _ hc (by omega), m1 _ _ hd (by omega), m1 _ _ he (by omega), m1 _ _ hf (by omega), m1 _ _ hg (by omega)]
  unfold by8 c1
  omega

theorem sw2_by8 (a b c d e f g h : Nat) (ha : a < 256) (hb : b < 256) (hc : c < 256) (hd : d < 256) (he : e < 256) (hf : f < 256) (hg : g < 256) (hh : h < 256) :
    sw2 (by8 a b c d e f g h) = by8 (d1 a) (d1 b) (d1 c) (d1 d) (d1 e) (d1 f) (d1 g) (d1 h) := by
  have e0 : by8 a b c d e f g h / 4 = by8 (a / 4 + 64 * (b % 4)) (b / 4 + 64 * (c % 4)) (c / 4 + 64 * (d % 4)) (d / 4 + 64 * (e % 4)) (e / 4 + 64 * (f % 4)) (f / 4 + 64 * (g % 4)) (g / 4 + 64 * (h % 4)) (h / 4) := by unfold by8; omega
  have em : (3689348814741910323 : Nat) = by8 51 51 51 51 51 51 51 51 := by decide
  unfold sw2
  rw [e0, em, and8 _ _ _ _ _ _ _ _ _ _ _ _ _ _ _ _ (by omega) (by omega) (by omega) (by omega) (by omega) (by omega) (by omega) (by omega) (by omega) (by omega) (by omega) (by omega) (by omega) (by omega),
    and8 _ _ _ _ _ _ _ _ _ _ _ _ _ _ _ _ ha hb hc hd he hf hg (by omega) (by omega) (by omega) (by omega) (by omega) (by omega) (by omega),
    m2 _ _ ha (by omega), m2 _ _ hb (by omega), m2 _ _ hc (by omega), m2 _ _ hd (by omega), m2 _ _ he (by omega), m2 _ _ hf (by omega), m2 _ _ hg (by omega)]
  unfold by8 d1
  omega

theorem and15 (y : Nat) : y &&& 15 = y % 16 := Nat.and_two_pow_sub_one_eq_mod y 4

theorem sw3_by8 (a b c d e f g h : Nat) (ha : a % 16 ≤ 4 ∧ a / 16 ≤ 4) (hb : b % 16 ≤ 4 ∧ b / 16 ≤ 4) (hc : c % 16 ≤ 4 ∧ c / 16 ≤ 4) (hd : d % 16 ≤ 4 ∧ d / 16 ≤ 4) (he : e % 16 ≤ 4 ∧ e / 16 ≤ 4) (hf : f % 16 ≤ 4 ∧ f / 16 ≤ 4) (hg : g % 16 ≤ 4 ∧ g / 16 ≤ 4) (hh : h % 16 ≤ 4 ∧ h / 16 ≤ 4) :
    sw3 (by8 a b c d e f g h) = by8 (a % 16 + a / 16) (b % 16 + b / 16) (c % 16 + c / 16) (d % 16 + d / 16) (e % 16 + e / 16) (f % 16 + f / 16) (g % 16 + g / 16) (h % 16 + h / 16) := by
  have e0 : by8 a b c d e f g h / 16 + by8 a b c d e f g h = by8 (a / 16 + 16 * (b % 16) + a) (b / 16 + 16 * (c % 16) + b) (c / 16 + 16 * (d % 16) + c) (d / 16 + 16 * (e % 16) + d) (e / 16 + 16 * (f % 16) + e) (f / 16 + 16 * (g % 16) + f) (g / 16 + 16 * (h % 16) + g) (h / 16 + h) := by unfold by8; omega
  have em : (1085102592571150095 : Nat) = by8 15 15 15 15 15 15 15 15 := by decide
  unfold sw3
  rw [e0, em, and8 _ _ _ _ _ _ _ _ _ _ _ _ _ _ _ _ (by omega) (by omega) (by omega) (by omega) (by omega) (by omega) (by omega) (by omega) (by omega) (by omega) (by omega) (by omega) (by omega) (by omega)]
  simp only [and15]
  have k : ∀ a b : Nat, a % 16 ≤ 4 → a / 16 ≤ 4 → (a / 16 + 16 * b + a) % 16 = a % 16 + a / 16 := by omega
  rw [k _ _ ha.1 ha.2, k _ _ hb.1 hb.2, k _ _ hc.1 hc.2, k _ _ hd.1 hd.2, k _ _ he.1 he.2, k _ _ hf.1 hf.2, k _ _ hg.1 hg.2]
  rw [show (h / 16 + h) % 16 = h % 16 + h / 16 by omega]

theorem popR_byte (a r : Nat) (ha : a < 256) (k : Nat) : popR (8 + k) (a + 256 * r) = popR 8 a + popR k r := by
  rw [popR_split]
  have e1 : (a + 256 * r) / 2 ^ 8 = r := by omega
  rw [e1, ← popR_mod 8 (a + 256 * r)]
  have e2 : (a + 256 * r) % 2 ^ 8 = a := by omega
  rw [e2]

theorem pop_by8 (a b c d e f g h : Nat) (ha : a < 256) (hb : b < 256) (hc : c < 256) (hd : d < 256) (he : e < 256) (hf : f < 256) (hg : g < 256) :
    pop (by8 a b c d e f g h) = popR 8 a + (popR 8 b + (popR 8 c + (popR 8 d + (popR 8 e + (popR 8 f + (popR 8 g + popR 8 h)))))) := by
  unfold pop by8
  rw [popR_byte _ _ ha 56, popR_byte _ _ hb 48, popR_byte _ _ hc 40, popR_byte _ _ hd 32, popR_byte _ _ he 24, popR_byte _ _ hf 16, popR_byte _ _ hg 8]

def swf (x : Nat) : Nat :=
  let y := x + x / 256
  let z := y + y / 65536
  (z + z / 4294967296) % 128

theorem swf_by8 (a b c d e f g h : Nat) (wa : a ≤ 8) (wb : b ≤ 8) (wc : c ≤ 8) (wd : d ≤ 8) (we : e ≤ 8) (wf : f ≤ 8) (wg : g ≤ 8) (wh : h ≤ 8) :
    swf (by8 a b c d e f g h) = a + (b + (c + (d + (e + (f + (g + h)))))) := by
  simp only [swf]
  have h1 : by8 a b c d e f g h + by8 a b c d e f g h / 256 = by8 (a + b) (b + c) (c + d) (d + e) (e + f) (f + g) (g + h) h := by unfold by8; omega
  rw [h1]
  have h2 : by8 (a + b) (b + c) (c + d) (d + e) (e + f) (f + g) (g + h) h + by8 (a + b) (b + c) (c + d) (d + e) (e + f) (f + g) (g + h) h / 65536 = by8 (a + b + c + d) (b + c + d + e) (c + d + e + f) (d + e + f + g) (e + f + g + h) (f + g + h) (g + h) h := by unfold by8; omega
  rw [h2]
  have h3 : by8 (a + b + c + d) (b + c + d + e) (c + d + e + f) (d + e + f + g) (e + f + g + h) (f + g + h) (g + h) h / 4294967296 = (e + f + g + h) + 256 * ((f + g + h) + 256 * ((g + h) + 256 * h)) := by unfold by8; omega
  rw [h3]
  unfold by8
  omega

theorem by8_lt (a b c d e f g h k : Nat) (ha : a ≤ k) (hb : b ≤ k) (hc : c ≤ k) (hd : d ≤ k) (he : e ≤ k) (hf : f ≤ k) (hg : g ≤ k) (hh : h ≤ k) : by8 a b c d e f g h ≤ by8 k k k k k k k k := by
  unfold by8; omega

theorem swar (x : Nat) (hx : x < 18446744073709551616) : swf (sw3 (sw2 (sw1 x))) = pop x ∧ sw1 x < 18446744073709551616 ∧ sw2 (sw1 x) < 18446744073709551616 ∧ sw2 (sw1 x) / 16 + sw2 (sw1 x) < 18446744073709551616 ∧ sw3 (sw2 (sw1 x)) ≤ 578721382704613384 := by
  obtain ⟨a, b, c, d, e, f, g, h, ha, hb, hc, hd, he, hf, hg, hh, rfl⟩ := bytes8 x hx
  have qa := d1_of a ha; have qb := d1_of b hb; have qc := d1_of c hc; have qd := d1_of d hd
  have qe := d1_of e he; have qf := d1_of f hf; have qg := d1_of g hg; have qh := d1_of h hh
  have ra := c1_lt a ha; have rb := c1_lt b hb; have rc := c1_lt c hc; have rd := c1_lt d hd; have re := c1_lt e he; have rf := c1_lt f hf; have rg := c1_lt g hg; have rh := c1_lt h hh
  rw [sw1_by8 _ _ _ _ _ _ _ _ ha hb hc hd he hf hg hh, sw2_by8 _ _ _ _ _ _ _ _ ra rb rc rd re rf rg rh,
    sw3_by8 _ _ _ _ _ _ _ _ ⟨qa.1, qa.2.1⟩ ⟨qb.1, qb.2.1⟩ ⟨qc.1, qc.2.1⟩ ⟨qd.1, qd.2.1⟩ ⟨qe.1, qe.2.1⟩ ⟨qf.1, qf.2.1⟩ ⟨qg.1, qg.2.1⟩ ⟨qh.1, qh.2.1⟩,
    pop_by8 _ _ _ _ _ _ _ _ ha hb hc hd he hf hg, qa.2.2, qb.2.2, qc.2.2, qd.2.2, qe.2.2, qf.2.2, qg.2.2, qh.2.2]
  have wa : popR 8 a ≤ 8 := by omega
  have wb : popR 8 b ≤ 8 := by omega
  have wc : popR 8 c ≤ 8 := by omega
  have wd : popR 8 d ≤ 8 := by omega
  have we : popR 8 e ≤ 8 := by omega
  have wf : popR 8 f ≤ 8 := by omega
  have wg : popR 8 g ≤ 8 := by omega
  have wh : popR 8 h ≤ 8 := by omega
  have b1 := by8_lt (c1 a) (c1 b) (c1 c) (c1 d) (c1 e) (c1 f) (c1 g) (c1 h) 255 (by omega) (by omega) (by omega) (by omega) (by omega) (by omega) (by omega) (by omega)
  have b2 := by8_lt (d1 (c1 a)) (d1 (c1 b)) (d1 (c1 c)) (d1 (c1 d)) (d1 (c1 e)) (d1 (c1 f)) (d1 (c1 g)) (d1 (c1 h)) 68 (by omega) (by omega) (by omega) (by omega) (by omega) (by omega) (by omega) (by omega)
  have b3 := by8_lt _ _ _ _ _ _ _ _ 8 wa wb wc wd we wf wg wh
  have e1 : by8 255 255 255 255 255 255 255 255 = 18446744073709551615 := by decide
  have e2 : by8 68 68 68 68 68 68 68 68 = 4919131752989213764 := by decide
  have e3 : by8 8 8 8 8 8 8 8 8 = 578721382704613384 := by decide
  exact ⟨swf_by8 _ _ _ _ _ _ _ _ wa wb wc wd we wf wg wh, by omega, by omega, by omega, by omega⟩

end Go.Proofs.BitsPlain
