import Derived.Test.YtmdjhdnejmegfaaDoorRollLaw
set_option linter.unusedVariables false
set_option linter.unusedSimpArgs false
namespace Go.Proofs.YtmdjhdnejmegfaaDoor.RollLaw
open Go Go.Proofs Go.RowKit Go.Proofs.BitsPlain Go.Proofs.YtmdjhdnejmegfaaDoor.PRoll Go.Proofs.YtmdjhdnejmegfaaDoorW.PrintWords Go.Proofs.YtmdjhdnejmegfaaDoorW.PrintLast Go.Proofs.YtmdjhdnejmegfaaDoorW.PrintMore

/-! ### what is taken -/
theorem popR_mono : ∀ (k x y : Nat), (∀ i, x.testBit i = true → y.testBit i = true) → popR k x ≤ popR k y
  | 0, _, _, _ => Nat.le_refl _
  | k + 1, x, y, h => by
    have h0 := h 0
    simp only [Nat.testBit_zero, decide_eq_true_eq] at h0
    have ih := popR_mono k (x / 2) (y / 2) (fun i hi => by have := h (i + 1); simp only [Nat.testBit_succ] at this; exact this hi)
    simp only [popR]
    omega

theorem testBit_bitOf (n i : Nat) (hn : n < 64) : (bitOf n).testBit i = decide (n = i) := by
  unfold bitOf; rw [if_pos hn, Nat.testBit_two_pow]

theorem takes_spec (W h : Nat) : ∀ (l : List Nat) (o : Nat), (∀ n ∈ l, n < 64 ∧ o.testBit n = false) → l.Nodup → o < 18446744073709551616 →
    (∀ i, (takes W h l o).testBit i = true → o.testBit i = true ∨ i ∈ l) ∧ (∀ i, o.testBit i = true → (takes W h l o).testBit i = true) ∧
    pop (takes W h l o) ≤ max (pop o) (W - pop h) ∧ takes W h l o < 18446744073709551616 ∧ (pop o + pop h < W → ∀ n t, l = n :: t → (takes W h l o).testBit n = true)
  | [], o, _, _, ho => ⟨fun i hi => .inl hi, fun i hi => hi, by simp only [takes]; omega, ho, fun _ n t e => by cases e⟩
  | n :: l, o, hl, hnd, ho => by
    obtain ⟨hn64, hno⟩ := hl n (by simp)
    rw [List.nodup_cons] at hnd
    simp only [takes]
    by_cases hw : (W : Int) ≤ (pop o + pop h : Int)
    · rw [if_pos hw]
      exact ⟨fun i hi => .inl hi, fun i hi => hi, by omega, ho, fun hlt => by omega⟩
    · rw [if_neg hw]
      have hp := pop_or_bit o n hn64 hno
      obtain ⟨a1, a2, a3, a4, _⟩ := takes_spec W h l (o ||| bitOf n) (fun m hm => ⟨(hl m (by simp [hm])).1, by
        rw [Nat.testBit_or, (hl m (by simp [hm])).2, testBit_bitOf n m hn64]
        have : n ≠ m := fun e => hnd.1 (e ▸ hm)
        simp [this]⟩) hnd.2 (or_lt _ _ ho (bitOf_lt n))
      refine ⟨fun i hi => ?_, fun i hi => a2 i (by rw [Nat.testBit_or, hi]; rfl), by omega, a4, fun _ m t e => ?_⟩
      · rcases a1 i hi with h1 | h1
        · rw [Nat.testBit_or, testBit_bitOf n i hn64] at h1
          cases hoi : o.testBit i with
          | true => exact .inl rfl
          | false => rw [hoi] at h1; simp at h1; exact .inr (by simp [h1])
        · exact .inr (by simp [h1])
      · obtain ⟨rfl, rfl⟩ := List.cons.inj e
        exact a2 n (by rw [Nat.testBit_or, testBit_bitOf n n hn64]; simp)

/-- What One takes of the idle, when it holds none. -/
theorem next_spec (W d A n : Nat) (hW : 1 ≤ W) (hd : d < 18446744073709551616) (hA : A < 18446744073709551616) (i : Nat) (hne : less A d ≠ 0) :
    ∃ s : Nat, roll_Roll_Next.f (W : Int) 0 (d : Int) 0 (i : Int) (A : Int) = some (s : Int) ∧ s < 18446744073709551616 ∧ pop s ≤ W ∧ (∀ j, s.testBit j = true → A.testBit j = true ∧ d.testBit j = false) ∧ ∃ j, j < 64 ∧ s.testBit j = true := by
  have hz : less A (d ||| 0) = less A d := by rw [Nat.or_zero]
  have hlA : less A d < 18446744073709551616 := less_lt (n := 64) hA
  have hmem : ∀ j, j ∈ lows (less A d) → A.testBit j = true ∧ d.testBit j = false := fun j hj => by
    have := (mem_lows.1 hj).2
    rw [testBit_less] at this
    simpa using this
  obtain ⟨b1, b2, b3, b4, b5⟩ := takes_spec W 0 (lows (less A d)) 0 (fun n hn => ⟨(mem_lows.1 hn).1, by simp⟩) (lows_nodup _) (by omega)
  have p0 : pop 0 = 0 := popR_zero 64
  refine ⟨takes W 0 (lows (less A d)) 0, ?_, b4, by rw [p0] at b3; omega, fun j hj => ?_, ?_⟩
  · unfold roll_Roll_Next.f
    rw [if_pos (by omega), if_pos ⟨⟨by omega, by omega⟩, ⟨by omega, by omega⟩, ⟨by omega, by omega⟩⟩]
    simp only [Int.toNat_natCast, Int.toNat_zero]
    rw [hz]
  · rcases b1 j hj with h1 | h1
    · simp at h1
    · exact hmem j h1
  · obtain ⟨hs, _, _⟩ := lows_step (less A d) hlA hne
    exact ⟨_, (mem_lows.1 (by rw [hs]; simp)).1, b5 (by rw [p0]; omega) _ _ hs⟩

/-! ### all that is held comes back -/
def dAt (d h n : Nat) : Nat := d ||| (h &&& first n)
def hAt (h n : Nat) : Nat := less h (first n)
theorem dAt_lt {d h n : Nat} (hd : d < 18446744073709551616) (hh : h < 18446744073709551616) : dAt d h n < 18446744073709551616 :=
  or_lt _ _ hd (by rw [Nat.and_comm]; exact Nat.and_lt_two_pow (n := 64) _ hh)
theorem hAt_lt {h n : Nat} (hh : h < 18446744073709551616) : hAt h n < 18446744073709551616 := less_lt (n := 64) hh
theorem testBit_dAt (d h n i : Nat) : (dAt d h n).testBit i = (d.testBit i || (h.testBit i && decide (i < n))) := by unfold dAt; rw [Nat.testBit_or, Nat.testBit_and, testBit_first]
theorem testBit_hAt (h n i : Nat) : (hAt h n).testBit i = (h.testBit i && !decide (i < n)) := by unfold hAt; rw [testBit_less, testBit_first]

theorem dAt_succ (d h n : Nat) (hn : n < 64) : (if (hAt h n).testBit n then dAt d h n ||| bitOf n else dAt d h n) = dAt d h (n + 1) := by
  apply Nat.eq_of_testBit_eq
  intro i
  have hb : (hAt h n).testBit n = h.testBit n := by rw [testBit_hAt]; simp
  rw [hb]
  by_cases e : n = i
  · subst e
    cases hbn : h.testBit n <;> simp [testBit_dAt, Nat.testBit_or, testBit_bitOf n n hn, hbn]
  · have e1 : (i < n + 1) = (i < n) := by apply propext; omega
    cases hbn : h.testBit n <;> simp [testBit_dAt, Nat.testBit_or, testBit_bitOf n i hn, e, e1]
theorem hAt_succ (h n : Nat) (hn : n < 64) : (if (hAt h n).testBit n then less (hAt h n) (bitOf n) else hAt h n) = hAt h (n + 1) := by
  apply Nat.eq_of_testBit_eq
  intro i
  have hb : (hAt h n).testBit n = h.testBit n := by rw [testBit_hAt]; simp
  rw [hb]
  by_cases e : n = i
  · subst e
    cases hbn : h.testBit n <;> simp [testBit_hAt, testBit_less, testBit_bitOf n n hn, hbn]
  · have e1 : (i < n + 1) = (i < n) := by apply propext; omega
    cases hbn : h.testBit n <;> simp [testBit_hAt, testBit_less, testBit_bitOf n i hn, e, e1]

theorem wrap_small (n : Nat) (hn : n < 1000) : wrap64 ((n : Int) + 1) = ((n + 1 : Nat) : Int) := by unfold wrap64; omega

theorem l1_run (W nd d h : Nat) (l : List Int) (tk tu i : Int) (hd : d < 18446744073709551616) (hh : h < 18446744073709551616) (r : Bool) (k0 : Nat)
    (hend : berthinglaw21_RollEnds.l1 k0 (W : Int) (nd : Int) l tk tu i 64 (W : Int) 0 ((dAt d h 64 : Nat) : Int) ((hAt h 64 : Nat) : Int) = some r) :
    ∀ (m n : Nat), n + m = 64 → berthinglaw21_RollEnds.l1 (k0 + m) (W : Int) (nd : Int) l tk tu i (n : Int) (W : Int) 0 ((dAt d h n : Nat) : Int) ((hAt h n : Nat) : Int) = some r
  | 0, n, hn => by obtain rfl : n = 64 := by omega
                   exact hend
  | m + 1, n, hn => by
    have ih := l1_run W nd d h l tk tu i hd hh r k0 hend m (n + 1) (by omega)
    rw [show k0 + (m + 1) = (k0 + m) + 1 by omega]
    unfold berthinglaw21_RollEnds.l1
    rw [if_pos (by omega), back_f (W : Int) 0 _ _ n (dAt_lt hd hh) (hAt_lt hh) (by omega)]
    simp only [Option.bind_some]
    rw [dAt_succ d h n (by omega), hAt_succ h n (by omega), wrap_small n (by omega)]
    exact ih

/-! ### turn for turn -/
theorem sub_zero_of {a b : Nat} (h : ∀ i, a.testBit i = true → b.testBit i = true) : less a b = 0 := by
  apply eq_zero_of_bits
  intro i
  rw [testBit_less]
  cases ha : a.testBit i with
  | false => rfl
  | true => rw [h i ha]; rfl

theorem bits_of_sub {a b : Nat} (h : less a b = 0) (i : Nat) (ha : a.testBit i = true) : b.testBit i = true := by
  have := congrArg (fun x => Nat.testBit x i) h
  simp only [testBit_less, ha, Nat.zero_testBit] at this
  simpa using this

end Go.Proofs.YtmdjhdnejmegfaaDoor.RollLaw
