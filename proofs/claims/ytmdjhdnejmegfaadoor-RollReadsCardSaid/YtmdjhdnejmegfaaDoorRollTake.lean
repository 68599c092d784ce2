import Derived.Test.YtmdjhdnejmegfaaDoorBitsGo
set_option linter.unusedVariables false
set_option linter.unusedSimpArgs false
namespace Go.Proofs.BitsPlain
open Go

/-- what is taken of a list, one after the other, until the width is there -/
def takes (width : Int) (held : Nat) : List Nat → Nat → Nat
  | [], o => o
  | n :: l, o => if width ≤ (pop o + pop held : Int) then o else takes width held l (o ||| bitOf n)

def runP (width : Int) (held : Nat) : List Nat → Nat → Option Nat
  | [], o => some o
  | n :: l, o => if width ≤ (pop o + pop held : Int) then none else runP width held l (o ||| bitOf n)

theorem runP_snoc (width : Int) (held x : Nat) : ∀ (l : List Nat) (o : Nat), runP width held (l ++ [x]) o = (runP width held l o).bind fun p => if width ≤ (pop p + pop held : Int) then none else some (p ||| bitOf x)
  | [], o => by simp [runP]
  | n :: l, o => by
    simp only [List.cons_append, runP]
    split
    · rfl
    · exact runP_snoc width held x l _

theorem takes_of_run (width : Int) (held : Nat) : ∀ (l : List Nat) (o p : Nat), runP width held l o = some p → takes width held l o = p
  | [], o, p, h => by simpa [runP, takes] using h
  | n :: l, o, p, h => by
    simp only [runP] at h
    split at h
    · simp at h
    · rename_i hw
      simp only [takes, if_neg hw]
      exact takes_of_run width held l _ p h

theorem takes_of_stop (width : Int) (held x : Nat) (p : Nat) (hp : width ≤ (pop p + pop held : Int)) : ∀ (pre l : List Nat) (o : Nat), runP width held pre o = some p → pre ++ [x] <+: l → takes width held l o = p
  | [], l, o, h, hl => by
    obtain ⟨t, rfl⟩ := hl
    simp only [runP, Option.some.injEq] at h
    subst h
    simp [takes, hp]
  | n :: pre, l, o, h, hl => by
    obtain ⟨t, rfl⟩ := hl
    simp only [runP] at h
    split at h
    · simp at h
    · rename_i hw
      simp only [List.cons_append, takes, if_neg hw]
      exact takes_of_stop width held x p hp pre _ _ h ⟨t, rfl⟩

theorem runP_lt (width : Int) (held : Nat) : ∀ (l : List Nat) (o p : Nat), o < 18446744073709551616 → runP width held l o = some p → p < 18446744073709551616
  | [], o, p, ho, h => by simp [runP] at h; omega
  | n :: l, o, p, ho, h => by
    simp only [runP] at h
    split at h
    · simp at h
    · exact runP_lt width held l _ p (or_lt _ _ ho (bitOf_lt n)) h

end Go.Proofs.BitsPlain
