/- Plain: how many nodes are outside; names are apart. Conditions: those that each theorem states. -/
import Derived.Test.YtkbjlaknhedekaaDoorAu8
set_option linter.unusedVariables false
set_option linter.unusedSimpArgs false
/- Plain: how many nodes are outside; names are apart. -/
namespace Go.Proofs.YtkbjlaknhedekaaDoor.Sm
open Go Go.Proofs Go.RowKit Go.Proofs.BitsPlain Go.Proofs.YtkbjlaknhedekaaDoor.PAuditNames
/-- the first ones of which something is so -/
def selR (p : Nat → Bool) : Nat → Nat
  | 0 => 0
  | i + 1 => if p i = true then selR p i ||| bitOf i else selR p i
def cntR (p : Nat → Bool) : Nat → Nat
  | 0 => 0
  | i + 1 => if p i = true then cntR p i + 1 else cntR p i
theorem inR_sel (l : List S33) (s : Int) : ∀ i, inR l s i = selR (fun j => (l.getD j z33).f0 == s) i
  | 0 => rfl
  | i + 1 => by unfold inR selR; rw [inR_sel l s i]
theorem bitOf_test (n i : Nat) : (bitOf n).testBit i = (decide (n < 64) && decide (i = n)) := by
  unfold bitOf
  split
  · rename_i h
    rw [Nat.testBit_two_pow]
    simp [h, eq_comm]
  · rename_i h
    simp [h]
theorem sel_test (p : Nat → Bool) (i : Nat) : ∀ n, (selR p n).testBit i = (decide (i < n) && (decide (i < 64) && p i))
  | 0 => by simp [selR]
  | n + 1 => by
    unfold selR
    split
    · rename_i h
      rw [Nat.testBit_or, sel_test p i n, bitOf_test]
      by_cases h1 : i = n
      · subst h1; simp [h]
      · have : decide (i < n + 1) = decide (i < n) := by simp; omega
        simp [h1, this]
    · rename_i h
      rw [sel_test p i n]
      by_cases h1 : i = n
      · subst h1; simp [h]
      · have : decide (i < n + 1) = decide (i < n) := by simp; omega
        simp [this]
theorem sel_pop (p : Nat → Bool) : ∀ n, n ≤ 64 → pop (selR p n) = cntR p n
  | 0, _ => by simp [selR, cntR, pop, popR_zero]
  | n + 1, h => by
    unfold selR cntR
    split
    · rw [pop_or_bit _ _ (by omega) (by rw [sel_test]; simp), sel_pop p n (by omega)]
    · exact sel_pop p n (by omega)
theorem outYtkbjlaknhedekaaDoorcnt (l : List S33) : outN l = cntR (fun j => !((l.getD j z33).f0 == 0)) (min l.length 64) := by
  unfold outN
  rw [← sel_pop _ _ (Nat.min_le_right _ _)]
  congr 1
  apply Nat.eq_of_testBit_eq
  intro i
  rw [testBit_less, inR_sel, sel_test, sel_test, Nat.testBit_two_pow_sub_one]
  by_cases h1 : i < l.length <;> by_cases h2 : i < 64 <;> simp [h1, h2, Nat.lt_min]
theorem textF_out (a : Int) (h : ¬ (1 ≤ a ∧ a ≤ 10)) : textF a = ⟨#[]⟩ := by
  unfold textF
  rw [if_neg (by omega), if_neg (by omega), if_neg (by omega), if_neg (by omega), if_neg (by omega), if_neg (by omega), if_neg (by omega), if_neg (by omega), if_neg (by omega), if_neg (by omega)]
theorem ba_inj {x y : ByteArray} (h : x.toList = y.toList) : x = y := by
  rw [ByteArray.toList_eq, ByteArray.toList_eq] at h
  cases x; cases y
  congr
  exact Array.toList_inj.1 h
theorem textF_ne (a : Int) (h : 1 ≤ a ∧ a ≤ 10) : (textF a).toList.isEmpty = false := by
  rcases (show a = 1 ∨ a = 2 ∨ a = 3 ∨ a = 4 ∨ a = 5 ∨ a = 6 ∨ a = 7 ∨ a = 8 ∨ a = 9 ∨ a = 10 by omega) with rfl | rfl | rfl | rfl | rfl | rfl | rfl | rfl | rfl | rfl <;> (rw [ByteArray.toList_eq]; rfl)
theorem textF_em (a : Int) (h : ¬ (1 ≤ a ∧ a ≤ 10)) : (textF a).toList.isEmpty = true := by
  rw [textF_out a h, ByteArray.toList_eq]; rfl
theorem textF_eq (a b : Int) (h : 1 ≤ a ∧ a ≤ 10) (he : (textF a).toList = (textF b).toList) : a = b := by
  by_cases hb : 1 ≤ b ∧ b ≤ 10
  · rw [ByteArray.toList_eq, ByteArray.toList_eq] at he
    rcases (show a = 1 ∨ a = 2 ∨ a = 3 ∨ a = 4 ∨ a = 5 ∨ a = 6 ∨ a = 7 ∨ a = 8 ∨ a = 9 ∨ a = 10 by omega) with rfl | rfl | rfl | rfl | rfl | rfl | rfl | rfl | rfl | rfl <;>
    rcases (show b = 1 ∨ b = 2 ∨ b = 3 ∨ b = 4 ∨ b = 5 ∨ b = 6 ∨ b = 7 ∨ b = 8 ∨ b = 9 ∨ b = 10 by omega) with rfl | rfl | rfl | rfl | rfl | rfl | rfl | rfl | rfl | rfl <;>
    first | rfl | (exact absurd he (by decide))
  · have h1 := textF_ne a h
    rw [he, textF_em b hb] at h1
    cases h1
end Go.Proofs.YtkbjlaknhedekaaDoor.Sm
