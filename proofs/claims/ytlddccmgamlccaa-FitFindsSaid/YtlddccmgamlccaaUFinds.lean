/- A part of the proofs over usage and fit (UFinds): contracts of the program's functions and plain laws of levels. Conditions: those that each theorem states. -/
import Derived.Test.YtlddccmgamlccaaUPut
import Derived.Test.YtlddccmgamlccaaPFindx1
import Derived.Test.YtlddccmgamlccaaPFindx3
import Derived.Test.YtlddccmgamlccaaPFindx4
import Derived.Test.YtlddccmgamlccaaPFindx5
import Derived.Test.YtlddccmgamlccaaPFindx6
import Derived.Test.YtlddccmgamlccaaUF
set_option linter.unusedVariables false
set_option linter.unusedSimpArgs false
namespace Go.Proofs.Ytlddccmgamlccaa.Us
open Go Go.Proofs Go.RowKit Go.Proofs.YtlddccmgamlccaaW.PrintWords Go.Proofs.YtlddccmgamlccaaW.PrintLast Go.Proofs.YtlddccmgamlccaaW.PrintMore Go.Proofs.Ytlddccmgamlccaa.PFind
open Go.Proofs.Ytlddccmgamlccaa.PFitRoom (S55 S98 k98 z98 rd_T98)
theorem rdU {l : List Int} (i : Nat) (h : i < l.length) : rd l (i : Int) = l[i] := by
 unfold rd
 simp [List.getElem?_eq_getElem h]
theorem wrapN {i : Nat} (h : i < 4611686018427387904) : wrap64 ((i : Int) + 1) = ((i + 1 : Nat) : Int) := by unfold wrap64; omega
theorem put_eq (l : List Int) (t : Int) (hl : l.length < 4398046511104) (k : Nat) (hk : l.length < k) : berthingref10_put.f l t = some (putU l t) := by unfold berthingref10_put.f; rw [if_pos hl]
theorem add_eq (l : List Int) (f t : Int) (hl : l.length < 4398046511104) (k : Nat) (hk : l.length + 1 < k) : berthingref11_add.f l f t = some (addU l f t) := by unfold berthingref11_add.f; rw [if_pos hl]
def clA (c : S98) : Int := if clT c.f0.f0 ≥ clT c.f0.f1 then 0 else clT c.f0.f0
def clB (c : S98) : Int := if clT c.f0.f0 ≥ clT c.f0.f1 then 0 else clT c.f0.f1
theorem rclean_eq (a b : Int) : berthingref01_Span_Clean.f a b = some (if clT a ≥ clT b then (0, 0) else (clT a, clT b)) := by
 unfold berthingref01_Span_Clean.f
 rw [rclamp_eq, rclamp_eq]
 simp only [Option.bind_some]
 split <;> rfl
theorem rclean_at (c : S98) : berthingref01_Span_Clean.f c.f0.f0 c.f0.f1 = some (clA c, clB c) := by
 rw [rclean_eq]
 unfold clA clB
 split <;> rfl
def timesR (r : List S98) : List Int := r.foldl (fun o c => putU (putU o (clA c)) (clB c)) [0]
theorem times_l0 (first : Int) (r : List S98) (hr : r.length < 1000000) : ∀ (d k i : Nat) (o : List Int), r.length - i = d → i ≤ r.length → o.length + 3 * d + 5 < k → o.length + 2 * d < 3000000 → berthingref10_Steps_Times.l0 k o (i : Int) first r = some ((r.drop i).foldl (fun o c => putU (putU o (clA c)) (clB c)) o)
 | 0, k, i, o, hd, hi, hk, ho => by
  obtain ⟨k, rfl⟩ : ∃ m, k = m + 1 := ⟨k - 1, by omega⟩
  simp only [berthingref10_Steps_Times.l0]
  rw [if_neg (by omega), List.drop_of_length_le (by omega)]
  rfl
 | d + 1, k, i, o, hd, hi, hk, ho => by
  obtain ⟨k, rfl⟩ : ∃ m, k = m + 1 := ⟨k - 1, by omega⟩
  have hlt : i < r.length := by omega
  have h1 := putU_len o (clA r[i])
  have h2 := putU_len (putU o (clA r[i])) (clB r[i])
  have ih := times_l0 first r hr d k (i + 1) (putU (putU o (clA r[i])) (clB r[i])) (by omega) (by omega) (by omega) (by omega)
  simp only [berthingref10_Steps_Times.l0]
  rw [if_pos (by omega), if_pos (by omega), rd_change i hlt, rclean_at, wrapN (by omega), List.drop_eq_getElem_cons hlt, List.foldl_cons, Option.bind_some]
  dsimp only
  rw [put_eq o _ (by omega) k (by omega), Option.bind_some, put_eq _ _ (by omega) k (by omega), Option.bind_some]
  exact ih
theorem times_eq (first : Int) (r : List S98) (hr : r.length < 1000000) (k : Nat) (hk : 3 * r.length + 6 < k) : berthingref10_Steps_Times.f k first r = some (timesR r) := by
 have h := times_l0 first r hr r.length k 0 [0] (by omega) (by omega) (by simp; omega) (by simp; omega)
 unfold berthingref10_Steps_Times.f timesR
 simpa using h
theorem clAB_range (c : S98) : (0 ≤ clA c ∧ clA c ≤ 1099511627776) ∧ (0 ≤ clB c ∧ clB c ≤ 1099511627776) := by
 have ha := clT_range c.f0.f0
 have hb := clT_range c.f0.f1
 unfold clA clB
 split <;> omega
theorem timesR_spec (r : List S98) : RiseU (timesR r) ∧ (timesR r).length ≤ 2 * r.length + 1 ∧ (∀ x, x ∈ timesR r ↔ x = 0 ∨ ∃ c ∈ r, (x = clA c ∨ x = clB c) ∧ x < 1099511627776) := by
 unfold timesR
 suffices h : ∀ (r : List S98) (o : List Int), RiseU o → RiseU (r.foldl (fun o c => putU (putU o (clA c)) (clB c)) o) ∧ (r.foldl (fun o c => putU (putU o (clA c)) (clB c)) o).length ≤ 2 * r.length + o.length ∧ (∀ x, x ∈ r.foldl (fun o c => putU (putU o (clA c)) (clB c)) o ↔ x ∈ o ∨ ∃ c ∈ r, (x = clA c ∨ x = clB c) ∧ x < 1099511627776) by
  obtain ⟨h1, h2, h3⟩ := h r [0] (List.pairwise_singleton _ _)
  exact ⟨h1, by simpa using h2, fun x => by rw [h3]; simp⟩
 intro r
 induction r with
 | nil => intro o ho; exact ⟨ho, by simp, fun x => by simp⟩
 | cons c r ih =>
  intro o ho
  obtain ⟨h1, h2, h3⟩ := ih (putU (putU o (clA c)) (clB c)) (putU_rise (putU_rise ho _) _)
  have e1 := putU_len o (clA c)
  have e2 := putU_len (putU o (clA c)) (clB c)
  refine ⟨h1, by simp only [List.foldl_cons, List.length_cons]; omega, fun x => ?_⟩
  rw [List.foldl_cons, h3, putU_mem, putU_mem]
  constructor
  ·rintro (((h | h) | h) | ⟨c', hc', h⟩)
   ·exact .inl h
   ·exact .inr ⟨c, List.mem_cons_self, .inl h.1, by omega⟩
   ·exact .inr ⟨c, List.mem_cons_self, .inr h.1, by omega⟩
   ·exact .inr ⟨c', List.mem_cons_of_mem _ hc', h⟩
  ·rintro (h | ⟨c', hc', h, hx⟩)
   ·exact .inl (.inl (.inl h))
   ·rcases List.mem_cons.1 hc' with rfl | hc'
    ·rcases h with h | h
     ·exact .inl (.inl (.inr ⟨h, by omega⟩))
     ·exact .inl (.inr ⟨h, by omega⟩)
    ·exact .inr ⟨c', hc', h, hx⟩
theorem refAt_stays (first : Int) (r : List S98) (a b : Int) (h0 : 0 ≤ a) (hab : a ≤ b) (hb : b < 1099511627776) (h : ∀ x ∈ timesR r, ¬ (a < x ∧ x ≤ b)) : refAt first r a = refAt first r b := by
 have hat : ∀ t, 0 ≤ t → t < 1099511627776 → atT t = t := fun t h1 h2 => by unfold atT; rw [clT_id ⟨h1, by omega⟩, if_neg (by omega)]
 unfold refAt
 rw [hat a h0 (by omega), hat b (by omega) hb]
 have hs : ∀ c ∈ r, ∀ v, stepR a v c = stepR b v c := fun c hc v => by
  obtain ⟨ra, rb⟩ := clAB_range c
  have hA : ¬ (a < clA c ∧ clA c ≤ b) := fun hh => h (clA c) (((timesR_spec r).2.2 _).2 (.inr ⟨c, hc, .inl rfl, by omega⟩)) hh
  have hB : ¬ (a < clB c ∧ clB c ≤ b) := fun hh => h (clB c) (((timesR_spec r).2.2 _).2 (.inr ⟨c, hc, .inr rfl, by omega⟩)) hh
  have hh : holdsR c.f0.f0 c.f0.f1 a = holdsR c.f0.f0 c.f0.f1 b := by
   unfold holdsR
   rw [clT_id (t := a) ⟨h0, by omega⟩, clT_id (t := b) ⟨by omega, by omega⟩]
   show (decide (clA c ≤ a) && decide (a < clB c)) = (decide (clA c ≤ b) && decide (b < clB c))
   have e1 : decide (clA c ≤ a) = decide (clA c ≤ b) := decide_eq_decide.2 (by omega)
   have e2 : decide (a < clB c) = decide (b < clB c) := decide_eq_decide.2 (by omega)
   rw [e1, e2]
  unfold stepR
  rw [hh]
 clear h
 revert hs
 generalize lvT first = v
 induction r generalizing v with
 | nil => intro _; rfl
 | cons c r ih =>
  intro hs
  rw [List.foldl_cons, List.foldl_cons, hs c List.mem_cons_self v]
  exact ih _ (fun c' hc' v' => hs c' (List.mem_cons_of_mem _ hc') v')
def ftimesR (r : List S98) (f M : Int) : List Int := (timesR r).foldl (fun o x => addU (addU (addU o f x) f (x - M)) f (x - M + 1)) (addU [] f f)
theorem ftimes_l0 (f m : Int) (hm : m ≤ 1099511627776) (l : List Int) (hr : ∀ x ∈ l, 0 ≤ x ∧ x < 1099511627776) (hl : l.length < 1000000) : ∀ (d k i : Nat) (o : List Int), l.length - i = d → i ≤ l.length → o.length + 4 * d + 5 < k → o.length + 3 * d < 4000000 →
  berthingref11_Times.l0 k f m o l (i : Int) = some ((l.drop i).foldl (fun o x => addU (addU (addU o f x) f (x - max m 1)) f (x - max m 1 + 1)) o)
 | 0, k, i, o, hd, hi, hk, ho => by
  obtain ⟨k, rfl⟩ : ∃ m, k = m + 1 := ⟨k - 1, by omega⟩
  simp only [berthingref11_Times.l0]
  rw [if_neg (by omega), List.drop_of_length_le (by omega)]
  rfl
 | d + 1, k, i, o, hd, hi, hk, ho => by
  obtain ⟨k, rfl⟩ : ∃ m, k = m + 1 := ⟨k - 1, by omega⟩
  have hlt : i < l.length := by omega
  have hx := hr l[i] (List.getElem_mem hlt)
  have hmx : mx m 1 = max m 1 := by unfold mx; split <;> omega
  have e1 := addU_len o f l[i]
  have e2 := addU_len (addU o f l[i]) f (l[i] - max m 1)
  have e3 := addU_len (addU (addU o f l[i]) f (l[i] - max m 1)) f (l[i] - max m 1 + 1)
  have w1 : wrap64 (l[i] - max m 1) = l[i] - max m 1 := by unfold wrap64; omega
  have w2 : wrap64 (l[i] - max m 1 + 1) = l[i] - max m 1 + 1 := by unfold wrap64; omega
  have ih := ftimes_l0 f m hm l hr hl d k (i + 1) (addU (addU (addU o f l[i]) f (l[i] - max m 1)) f (l[i] - max m 1 + 1)) (by omega) (by omega) (by omega) (by omega)
  simp only [berthingref11_Times.l0]
  rw [if_pos (by omega), if_pos (by omega), rdU i hlt, wrapN (by omega), hmx, w1, w2, List.drop_eq_getElem_cons hlt, List.foldl_cons]
  rw [add_eq o _ _ (by omega) k (by omega), Option.bind_some, add_eq _ _ _ (by omega) k (by omega), Option.bind_some, add_eq _ _ _ (by omega) k (by omega), Option.bind_some]
  exact ih
theorem timesR_range (r : List S98) : ∀ x ∈ timesR r, 0 ≤ x ∧ x < 1099511627776 := fun x hx => by
 rcases ((timesR_spec r).2.2 x).1 hx with h | ⟨c, _, h, h2⟩
 ·omega
 ·obtain ⟨ra, rb⟩ := clAB_range c
  omega
theorem ftimes_eq (first : Int) (r : List S98) (f m : Int) (hm : m ≤ 1099511627776) (hr : r.length < 1000) (k : Nat) (hk : 9 * r.length + 20 < k) : berthingref11_Times.f k first r f m = some (ftimesR r f (max m 1)) := by
 obtain ⟨_, hn, _⟩ := timesR_spec r
 unfold berthingref11_Times.f ftimesR
 rw [times_eq first r (by omega) k (by omega), Option.bind_some, add_eq [] f f (by simp) k (by simp; omega), Option.bind_some]
 have e1 := addU_len [] f f
 simp only [List.length_nil] at e1
 have h := ftimes_l0 f m hm (timesR r) (timesR_range r) (by omega) (timesR r).length k 0 (addU [] f f) (by omega) (by omega) (by omega) (by omega)
 simpa using h
theorem ftimesR_spec (r : List S98) (f M : Int) : RiseU (ftimesR r f M) ∧ (ftimesR r f M).length ≤ 6 * r.length + 4 ∧
  (∀ x, x ∈ ftimesR r f M ↔ (f ≤ x ∧ x < 1099511627776) ∧ (x = f ∨ ∃ y ∈ timesR r, x = y ∨ x = y - M ∨ x = y - M + 1)) := by
 unfold ftimesR
 suffices h : ∀ (l o : List Int), RiseU o → RiseU (l.foldl (fun o x => addU (addU (addU o f x) f (x - M)) f (x - M + 1)) o) ∧ (l.foldl (fun o x => addU (addU (addU o f x) f (x - M)) f (x - M + 1)) o).length ≤ 3 * l.length + o.length ∧
   (∀ x, x ∈ l.foldl (fun o x => addU (addU (addU o f x) f (x - M)) f (x - M + 1)) o ↔ x ∈ o ∨ (f ≤ x ∧ x < 1099511627776) ∧ ∃ y ∈ l, x = y ∨ x = y - M ∨ x = y - M + 1) by
  have e1 := addU_len [] f f
  simp only [List.length_nil] at e1
  obtain ⟨_, hn, _⟩ := timesR_spec r
  obtain ⟨h1, h2, h3⟩ := h (timesR r) (addU [] f f) (addU_rise List.Pairwise.nil _ _)
  refine ⟨h1, by omega, fun x => ?_⟩
  rw [h3, addU_mem]
  constructor
  ·rintro ((h | h) | ⟨h, y, hy, hh⟩)
   ·simp at h
   ·exact ⟨by omega, .inl h.1⟩
   ·exact ⟨h, .inr ⟨y, hy, hh⟩⟩
  ·rintro ⟨h, hh | ⟨y, hy, hh⟩⟩
   ·exact .inl (.inr ⟨hh, by omega⟩)
   ·exact .inr ⟨h, y, hy, hh⟩
 intro l
 induction l with
 | nil => intro o ho; exact ⟨ho, by simp, fun x => by simp⟩
 | cons y l ih =>
  intro o ho
  obtain ⟨h1, h2, h3⟩ := ih (addU (addU (addU o f y) f (y - M)) f (y - M + 1)) (addU_rise (addU_rise (addU_rise ho _ _) _ _) _ _)
  have e1 := addU_len o f y
  have e2 := addU_len (addU o f y) f (y - M)
  have e3 := addU_len (addU (addU o f y) f (y - M)) f (y - M + 1)
  refine ⟨h1, by simp only [List.foldl_cons, List.length_cons]; omega, fun x => ?_⟩
  rw [List.foldl_cons, h3, addU_mem, addU_mem, addU_mem]
  constructor
  ·rintro ((((h | h) | h) | h) | ⟨h, z, hz, hh⟩)
   ·exact .inl h
   ·exact .inr ⟨by omega, y, List.mem_cons_self, .inl h.1⟩
   ·exact .inr ⟨by omega, y, List.mem_cons_self, .inr (.inl h.1)⟩
   ·exact .inr ⟨by omega, y, List.mem_cons_self, .inr (.inr h.1)⟩
   ·exact .inr ⟨h, z, List.mem_cons_of_mem _ hz, hh⟩
  ·rintro (h | ⟨h, z, hz, hh⟩)
   ·exact .inl (.inl (.inl (.inl h)))
   ·rcases List.mem_cons.1 hz with rfl | hz
    ·rcases hh with hh | hh | hh
     ·exact .inl (.inl (.inl (.inr ⟨hh, by omega⟩)))
     ·exact .inl (.inl (.inr ⟨hh, by omega⟩))
     ·exact .inl (.inr ⟨hh, by omega⟩)
    ·exact .inr ⟨h, z, hz, hh⟩
end Go.Proofs.Ytlddccmgamlccaa.Us
set_option linter.unusedVariables false
set_option linter.unusedSimpArgs false
namespace Go.Proofs.Ytlddccmgamlccaa.Us
open Go Go.Proofs Go.RowKit Go.Proofs.YtlddccmgamlccaaW.PrintWords Go.Proofs.YtlddccmgamlccaaW.PrintLast Go.Proofs.YtlddccmgamlccaaW.PrintMore Go.Proofs.Ytlddccmgamlccaa.PFind
open Go.Proofs.Ytlddccmgamlccaa.PFitRoom (S55 S98 k98 z98 rd_T98)
theorem atL_lev {l : List (Int × Int)} (h : Lev l) (t : Int) : atL l t = lev l (atT t) := by
 have rt := clT_range t
 obtain ⟨y0, r0, hl⟩ := h.head
 obtain ⟨p1, p2⟩ := pl_spec h.rise (clT t) (0, y0) r0 hl rt.1
 have hlt := pl_lt (clT t) h.ne
 have h1 := p1 _ hlt (Nat.le_refl _)
 have h2 := h.top _ (List.getElem_mem hlt)
 unfold atL
 rw [List.getElem?_eq_getElem hlt]
 refine (levR_at l 0 (atT t) (pl l (clT t)) hlt h.rise ?_ (fun hh => ?_)).symm
 ·unfold atT; split <;> omega
 ·have := p2 _ hh (by omega)
  unfold atT; split <;> omega
theorem holdsR_iff (a b τ : Int) (h : 0 ≤ τ ∧ τ < 1099511627776) : holdsR a b τ = true ↔ clT a ≤ τ ∧ τ < clT b := by
 have ra := clT_range a
 unfold holdsR
 rw [clT_id (t := τ) ⟨h.1, by omega⟩, Bool.and_eq_true, decide_eq_true_eq, decide_eq_true_eq]
 by_cases hc : clT a ≥ clT b
 ·rw [if_pos hc, if_pos hc]; constructor <;> (intro hh; omega)
 ·rw [if_neg hc, if_neg hc]
theorem refAt_snoc (first : Int) (r : List S98) (c : S98) (t : Int) : refAt first (r ++ [c]) t = stepR (atT t) (refAt first r t) c := by unfold refAt; rw [List.foldl_append]; rfl
theorem atT_id {τ : Int} (h : 0 ≤ τ ∧ τ < 1099511627776) : atT τ = τ := by unfold atT; rw [clT_id ⟨h.1, by omega⟩, if_neg (by omega)]
theorem atT_atT (t : Int) : 0 ≤ atT t ∧ atT t < 1099511627776 := by have := clT_range t; unfold atT; split <;> omega
theorem refAt_atT (first : Int) (r : List S98) (t : Int) : refAt first r t = refAt first r (atT t) := by unfold refAt; rw [atT_id (atT_atT t)]
theorem stepR_in (τ v : Int) (c : S98) (h : 0 ≤ τ ∧ τ < 1099511627776) : stepR τ v c = if clT c.f0.f0 ≤ τ ∧ τ < clT c.f0.f1 then (if c.f1 = true then lvT c.f2 else lvT (v + byT c.f2)) else v := by
 unfold stepR
 by_cases hc : clT c.f0.f0 ≤ τ ∧ τ < clT c.f0.f1
 ·rw [if_pos ((holdsR_iff _ _ τ h).2 hc), if_pos hc]
 ·rw [if_neg (fun hh => hc ((holdsR_iff _ _ τ h).1 hh)), if_neg hc]
theorem play_same (first : Int) : ∀ (n : Nat) (xs : List ActS), xs.length = n → ∀ τ, 0 ≤ τ ∧ τ < 1099511627776 → refAt first (playR first xs) τ = lev (playL first xs) τ
 | 0, xs, hn, τ, h => by
  obtain rfl := List.eq_nil_of_length_eq_zero hn
  show lvT first = levR [(0, lvT first)] 0 τ
  unfold levR
  rw [if_pos h.1]
  rfl
 | n + 1, xs, hn, τ, h => by
  obtain ⟨ys, x, rfl⟩ : ∃ ys x, xs = ys ++ [x] := by
   rcases List.eq_nil_or_concat xs with rfl | ⟨ys, x, rfl⟩
   ·simp at hn
   ·exact ⟨ys, x, List.concat_eq_append⟩
  have hy : ys.length = n := by simp at hn; omega
  have ih := play_same first n ys hy
  have hL := (play_lev first ys).1
  rw [playL_snoc, playR_snoc]
  generalize playL first ys = L at ih hL ⊢
  generalize playR first ys = R at ih ⊢
  unfold actL actR
  by_cases h0 : x.kind = 0
  ·rw [if_pos h0, if_pos h0, refAt_snoc, atT_id h, stepR_in _ _ _ h, lev_turn hL _ _ _ _ h.2, ih τ h]
   simp
  ·rw [if_neg h0, if_neg h0]
   by_cases h1 : x.kind = 1
   ·rw [if_pos h1, if_pos h1, refAt_snoc, atT_id h, stepR_in _ _ _ h, lev_turn hL _ _ _ _ h.2, ih τ h]
    simp
   ·rw [if_neg h1, if_neg h1]
    by_cases h2 : x.kind = 2
    ·rw [if_pos h2, if_pos h2]
     by_cases ha : x.a ≥ 1099511627776
     ·rw [if_pos ha, if_pos ha, lev_turn hL _ _ _ _ h.2]
      rw [if_neg (by rw [clT_id ⟨Int.le_refl _, by omega⟩]; omega)]
      exact ih τ h
     ·rw [if_neg ha, if_neg ha, refAt_snoc, atT_id h, stepR_in _ _ _ h, lev_turn hL _ _ _ _ h.2, ih τ h, atL_lev hL, refAt_atT, ih _ (atT_atT _)]
      simp
    ·rw [if_neg h2, if_neg h2]; exact ih τ h
def cutR (a b x e : Int) : Int × Int := if mx a x ≥ mn b e then (0, 0) else (mx a x, mn b e)
theorem rcut_eq {a b x e : Int} (h : (0 ≤ a ∧ a < b ∧ b ≤ 1099511627776) ∨ (a = 0 ∧ b = 0)) (hx : 0 ≤ x ∧ x < e ∧ e ≤ 1099511627776) : berthingref01_Span_Cut.f a b x e = some (cutR a b x e) := by
 have e1 : (if clT a ≥ clT b then ((0 : Int), (0 : Int)) else (clT a, clT b)) = (a, b) := by
  rcases h with h | ⟨rfl, rfl⟩
  ·rw [clT_id ⟨h.1, by omega⟩, clT_id ⟨by omega, h.2.2⟩, if_neg (by omega)]
  ·rw [if_pos (by omega)]
 have e2 : (if clT x ≥ clT e then ((0 : Int), (0 : Int)) else (clT x, clT e)) = (x, e) := by rw [clT_id ⟨hx.1, by omega⟩, clT_id ⟨by omega, hx.2.2⟩, if_neg (by omega)]
 have hab : (0 ≤ a ∧ a ≤ 1099511627776) ∧ (0 ≤ b ∧ b ≤ 1099511627776) := by omega
 unfold berthingref01_Span_Cut.f
 rw [rclean_eq, rclean_eq, e1, e2]
 simp only [Option.bind_some]
 rw [rclean_eq, clT_id (mx_range hab.1 ⟨hx.1, by omega⟩), clT_id (mn_range hab.2 ⟨by omega, hx.2.2⟩)]
 rfl
def nextU (r : List Int) : Int := r.headD 1099511627776
def inLv (at_ : Int → Int) (a b : Int) : List Int → List Int
 | [] => []
 | x :: r => if mx a x ≥ mn b (nextU r) then inLv at_ a b r else at_ (mx a x) :: inLv at_ a b r
def inMn (a b : Int) : List Int → List Int
 | [] => []
 | x :: r => if mx a x ≥ mn b (nextU r) then inMn a b r else (mn b (nextU r) - mx a x) :: inMn a b r
theorem inLv_len (at_ : Int → Int) (a b : Int) : ∀ l, (inLv at_ a b l).length ≤ l.length
 | [] => Nat.le_refl _
 | x :: r => by
  have := inLv_len at_ a b r
  unfold inLv
  split <;> simp only [List.length_cons] <;> omega
theorem in_l0 (first : Int) (r : List S98) (hr : r.length < 1000000) (a b : Int) (h : (0 ≤ a ∧ a < b ∧ b ≤ 1099511627776) ∨ (a = 0 ∧ b = 0)) (l : List Int) (hl : l.length < 1000000) (hR : RiseU l) (hx : ∀ x ∈ l, 0 ≤ x ∧ x < 1099511627776) :
  ∀ (d k i : Nat) (o m : List Int), l.length - i = d → i ≤ l.length → r.length + 2 * d + 5 < k → o.length + d < 3000000 → m.length + d < 3000000 → berthingref10_Steps_In.l0 k o m l (i : Int) first r a b = some (o ++ inLv (refAt first r) a b (l.drop i), m ++ inMn a b (l.drop i))
 | 0, k, i, o, m, hd, hi, hk, ho, hm => by
  obtain ⟨k, rfl⟩ : ∃ m, k = m + 1 := ⟨k - 1, by omega⟩
  simp only [berthingref10_Steps_In.l0]
  rw [if_neg (by omega), List.drop_of_length_le (by omega)]
  simp [inLv, inMn]
 | d + 1, k, i, o, m, hd, hi, hk, ho, hm => by
  obtain ⟨k, rfl⟩ : ∃ m, k = m + 2 := ⟨k - 2, by omega⟩
  have hlt : i < l.length := by omega
  have hxi := hx l[i] (List.getElem_mem hlt)
  have e := List.drop_eq_getElem_cons hlt
  have ih := fun o' m' => in_l0 first r hr a b h l hl hR hx d k (i + 1) o' m' (by omega) (by omega) (by omega)
  have hj : ∀ z, z = nextU (l.drop (i + 1)) → l[i] < z → z ≤ 1099511627776 → berthingref10_Steps_In.j1 (k + 1) o m l (i : Int) z first r a b = some (o ++ inLv (refAt first r) a b (l.drop i), m ++ inMn a b (l.drop i)) := by
   intro z hz hz1 hz2
   simp only [berthingref10_Steps_In.j1]
   rw [if_pos (by omega), if_pos (by omega), rdU i hlt, rcut_eq h ⟨hxi.1, hz1, hz2⟩, Option.bind_some, wrapN (by omega), e, inLv, inMn, ← hz]
   unfold cutR
   by_cases hc : mx a l[i] ≥ mn b z
   ·rw [if_pos hc, if_pos hc, if_pos hc]
    dsimp only
    rw [if_neg (by omega)]
    exact ih o m (by omega) (by omega)
   ·have hmr := mx_range (a := a) (b := l[i]) (by omega) (by omega)
    have hnr := mn_range (a := b) (b := z) (by omega) (by omega)
    have hw : wrap64 (mn b z - mx a l[i]) = mn b z - mx a l[i] := by unfold wrap64; omega
    rw [if_neg hc, if_neg hc, if_neg hc]
    dsimp only
    rw [if_pos (by omega), refAt_eq first r _ (by omega) k (by omega), Option.bind_some, if_pos (by omega), if_pos (by omega), hw]
    have := ih (o ++ [refAt first r (mx a l[i])]) (m ++ [mn b z - mx a l[i]]) (by simp; omega) (by simp; omega)
    rw [this, List.append_assoc, List.append_assoc]
    rfl
  simp only [berthingref10_Steps_In.l0]
  rw [if_pos (by omega), wrapN (by omega)]
  rcases Nat.lt_or_ge (i + 1) l.length with h1 | h1
  ·rw [if_pos (by omega), if_pos (by omega), rdU (i + 1) h1]
   have e2 := List.drop_eq_getElem_cons h1
   have h3 := hx l[i + 1] (List.getElem_mem h1)
   refine hj _ (by rw [e2]; rfl) (List.pairwise_iff_getElem.1 hR i (i + 1) hlt h1 (by omega)) (by omega)
  ·rw [if_neg (by omega)]
   refine hj _ (by rw [List.drop_of_length_le h1]; rfl) hxi.2 (Int.le_refl _)
def piecesU (r : List S98) (a : Int) : List Int := putU (timesR r) a
theorem pieces_spec (r : List S98) (a : Int) (ha : 0 ≤ a) : RiseU (piecesU r a) ∧ (piecesU r a).length ≤ 2 * r.length + 2 ∧ (∀ x ∈ piecesU r a, 0 ≤ x ∧ x < 1099511627776) ∧ (∀ x ∈ timesR r, x ∈ piecesU r a) := by
 obtain ⟨h1, h2, _⟩ := timesR_spec r
 have h3 := putU_len (timesR r) a
 refine ⟨putU_rise h1 a, by unfold piecesU; omega, fun x hx => ?_, fun x hx => (putU_mem _ _ _).2 (.inl hx)⟩
 rcases (putU_mem _ _ _).1 hx with hx | hx
 ·exact timesR_range r x hx
 ·omega
theorem in_eq (first : Int) (r : List S98) (hr : r.length < 1000) (s t a b : Int) (he : (if clT s ≥ clT t then ((0 : Int), (0 : Int)) else (clT s, clT t)) = (a, b)) (k : Nat) (hk : 5 * r.length + 20 < k) :
  berthingref10_Steps_In.f k first r s t = some (inLv (refAt first r) a b (piecesU r a), inMn a b (piecesU r a)) := by
 have rs := clT_range s
 have rt := clT_range t
 have h : (0 ≤ a ∧ a < b ∧ b ≤ 1099511627776) ∨ (a = 0 ∧ b = 0) := by
  split at he
  ·obtain ⟨rfl, rfl⟩ := Prod.mk.inj he; exact .inr ⟨rfl, rfl⟩
  ·obtain ⟨rfl, rfl⟩ := Prod.mk.inj he; left; omega
 obtain ⟨h1, h2, h3, _⟩ := pieces_spec r a (by omega)
 obtain ⟨_, h4, _⟩ := timesR_spec r
 unfold berthingref10_Steps_In.f
 rw [rclean_eq, he, Option.bind_some]
 dsimp only
 rw [times_eq first r (by omega) k (by omega), Option.bind_some, put_eq _ _ (by omega) k (by omega), Option.bind_some]
 have hh := in_l0 first r (by omega) a b h (piecesU r a) (by omega) h1 h3 (piecesU r a).length k 0 [] [] (by omega) (by omega) (by omega) (by simp; omega) (by simp; omega)
 rw [Int.natCast_zero, List.drop_zero, List.nil_append, List.nil_append] at hh
 exact hh
theorem inLv_spec (at_ : Int → Int) (a b : Int) (hb : b ≤ 1099511627776) (v : Int) : ∀ (x : Int) (r : List Int), RiseU (x :: r) → (∀ y ∈ x :: r, y < 1099511627776) → (∀ p q, x ≤ p → p ≤ q → q < 1099511627776 → (∀ y ∈ x :: r, ¬ (p < y ∧ y ≤ q)) → at_ p = at_ q) →
  ((∀ u ∈ inLv at_ a b (x :: r), u ≥ v) ↔ ∀ τ, x ≤ τ → a ≤ τ → τ < b → at_ τ ≥ v)
 | x, [], _, hx, hc => by
  have hx1 := hx x List.mem_cons_self
  have hn : mn b (nextU []) = b := by
   have h0 : nextU [] = 1099511627776 := rfl
   unfold mn; split <;> omega
  rw [inLv, hn]
  split
  ·rename_i h
   refine ⟨fun _ τ h1 h2 h3 => ?_, fun _ u hu => by simp [inLv] at hu⟩
   unfold mx at h; split at h <;> omega
  ·rename_i h
   have hm : ∀ y ∈ [x], ∀ q, ¬ (mx a x < y ∧ y ≤ q) := fun y hy q => by
    obtain rfl := List.mem_singleton.1 hy
    unfold mx; split <;> omega
   have hm1 : x ≤ mx a x ∧ a ≤ mx a x := by unfold mx; split <;> omega
   simp only [inLv, List.mem_singleton, forall_eq]
   refine ⟨fun hh τ h1 h2 h3 => ?_, fun hh => hh _ hm1.1 hm1.2 (by omega)⟩
   rw [← hc (mx a x) τ hm1.1 (by unfold mx; split <;> omega) (by omega) (fun y hy => hm y hy τ)]
   exact hh
 | x, y :: r, hR, hx, hc => by
  have hR' := List.pairwise_cons.1 hR
  have hxy := hR'.1 y List.mem_cons_self
  have hy1 := hx y (List.mem_cons_of_mem _ List.mem_cons_self)
  have ih := inLv_spec at_ a b hb v y r hR'.2 (fun z hz => hx z (List.mem_cons_of_mem _ hz)) (fun p q h1 h2 h3 h4 => hc p q (by omega) h2 h3 (fun z hz => by
   rcases List.mem_cons.1 hz with rfl | hz
   ·omega
   ·exact h4 z hz))
  have hm : ∀ q, q < y → ∀ z ∈ x :: y :: r, ¬ (mx a x < z ∧ z ≤ q) := fun q hq z hz => by
   rcases List.mem_cons.1 hz with rfl | hz
   ·unfold mx; split <;> omega
   ·rcases List.mem_cons.1 hz with rfl | hz
    ·omega
    ·have := (List.pairwise_cons.1 hR'.2).1 z hz; omega
  have hm1 : x ≤ mx a x ∧ a ≤ mx a x := by unfold mx; split <;> omega
  have hnb : mn b y ≤ b ∧ mn b y ≤ y := by unfold mn; split <;> omega
  rw [inLv]
  show ((∀ u ∈ (if mx a x ≥ mn b y then _ else _), u ≥ v) ↔ _)
  split
  ·rename_i h
   rw [ih]
   refine ⟨fun hh τ h1 h2 h3 => ?_, fun hh τ h1 h2 h3 => hh τ (by omega) h2 h3⟩
   rcases Int.lt_or_le τ y with h4 | h4
   ·exfalso; unfold mx mn at h; split at h <;> split at h <;> omega
   ·exact hh τ h4 h2 h3
  ·rename_i h
   rw [List.forall_mem_cons, ih]
   constructor
   ·rintro ⟨h5, hh⟩ τ h1 h2 h3
    rcases Int.lt_or_le τ y with h4 | h4
    ·rw [← hc (mx a x) τ hm1.1 (by unfold mx; split <;> omega) (by omega) (hm τ h4)]
     exact h5
    ·exact hh τ h4 h2 h3
   ·intro hh
    exact ⟨hh _ hm1.1 hm1.2 (by omega), fun τ h1 h2 h3 => hh τ (by omega) h2 h3⟩
theorem radd_tells (a b : Int) : berthingref01_Add.f a b = some (addT a b) := by
 have ra := clT_range a
 have rb := clT_range b
 unfold berthingref01_Add.f
 rw [rclamp_eq, rclamp_eq]
 simp only [Option.bind_some]
 rw [wrap64_small (by omega), rclamp_eq]
 rfl
def minU (l : List Int) : Int := l.foldl mn (l.headD 0)
theorem least_l0 (l : List Int) (hl : l.length < 1000000000) : ∀ (d k i : Nat) (v : Int), l.length - i = d → i ≤ l.length → d < k → berthingref11_Least.l0 k l v (i : Int) = some ((l.drop i).foldl mn v)
 | 0, k, i, v, hd, hi, hk => by
  obtain ⟨k, rfl⟩ : ∃ m, k = m + 1 := ⟨k - 1, by omega⟩
  simp only [berthingref11_Least.l0]
  rw [if_neg (by omega), List.drop_of_length_le (by omega)]
  rfl
 | d + 1, k, i, v, hd, hi, hk => by
  obtain ⟨k, rfl⟩ : ∃ m, k = m + 1 := ⟨k - 1, by omega⟩
  have hlt : i < l.length := by omega
  have ih := least_l0 l hl d k (i + 1) (mn v l[i]) (by omega) (by omega) (by omega)
  simp only [berthingref11_Least.l0]
  rw [if_pos (by omega), if_pos (by omega), rdU i hlt, wrapN (by omega), List.drop_eq_getElem_cons hlt, List.foldl_cons]
  exact ih
theorem foldl_mn (v : Int) : ∀ (l : List Int) (c : Int), l.foldl mn c ≥ v ↔ c ≥ v ∧ ∀ x ∈ l, x ≥ v
 | [], c => by simp
 | x :: r, c => by
  rw [List.foldl_cons, foldl_mn v r, List.forall_mem_cons]
  have : mn c x ≥ v ↔ c ≥ v ∧ x ≥ v := by unfold mn; split <;> omega
  rw [this, and_assoc]
theorem minU_spec (l : List Int) (h : l ≠ []) (v : Int) : minU l ≥ v ↔ ∀ x ∈ l, x ≥ v := by
 unfold minU
 rw [foldl_mn]
 cases l with
 | nil => exact absurd rfl h
 | cons x r => exact ⟨fun h => h.2, fun h => ⟨h x List.mem_cons_self, h⟩⟩
def leastRf (first : Int) (r : List S98) (t M : Int) : Int := if clT t ≥ addT t M then refAt first r t else minU (inLv (refAt first r) (clT t) (addT t M) (piecesU r (clT t)))
theorem pieces_ne (first : Int) (r : List S98) (a b : Int) (h : 0 ≤ a ∧ a < b ∧ b ≤ 1099511627776) (v : Int) : inLv (refAt first r) a b (piecesU r a) ≠ [] ∧ ((∀ u ∈ inLv (refAt first r) a b (piecesU r a), u ≥ v) ↔ ∀ τ, a ≤ τ → τ < b → refAt first r τ ≥ v) := by
 obtain ⟨h1, h2, h3, h4⟩ := pieces_spec r a h.1
 have h0 : (0 : Int) ∈ piecesU r a := h4 0 (((timesR_spec r).2.2 0).2 (.inl rfl))
 cases hp : piecesU r a with
 | nil => rw [hp] at h0; simp at h0
 | cons x s =>
  rw [hp] at h1 h3 h4 h0
  have hx0 : x = 0 := by
   have h5 := h3 x List.mem_cons_self
   rcases List.mem_cons.1 h0 with h6 | h6
   ·omega
   ·have := (List.pairwise_cons.1 h1).1 0 h6; omega
  subst hx0
  have key : ∀ v, ((∀ u ∈ inLv (refAt first r) a b (0 :: s), u ≥ v) ↔ ∀ τ, a ≤ τ → τ < b → refAt first r τ ≥ v) := fun v => by
   rw [inLv_spec (refAt first r) a b h.2.2 v 0 s h1 (fun y hy => (h3 y hy).2) (fun p q h5 h6 h7 h8 => refAt_stays first r p q h5 h6 h7 (fun y hy => h8 y (h4 y hy)))]
   exact ⟨fun hh τ h5 h6 => hh τ (by omega) h5 h6, fun hh τ _ h5 h6 => hh τ h5 h6⟩
  refine ⟨fun hn => ?_, key v⟩
  have := (key (refAt first r a + 1)).1 (by rw [hn]; simp) a (Int.le_refl _) h.2.1
  omega
theorem leastRf_eq (first : Int) (r : List S98) (hr : r.length < 1000) (t m : Int) (k : Nat) (hk : 5 * r.length + 20 < k) : berthingref11_Least.f k first r t m = some (leastRf first r t (max m 1)) := by
 have hmx : mx m 1 = max m 1 := by unfold mx; split <;> omega
 have ra := clT_range t
 have hB : 0 ≤ addT t (max m 1) ∧ addT t (max m 1) ≤ 1099511627776 := by unfold addT; exact clT_range _
 unfold berthingref11_Least.f leastRf
 rw [hmx, radd_tells, Option.bind_some]
 by_cases h : clT t ≥ addT t (max m 1)
 ·rw [in_eq first r hr _ _ 0 0 (by rw [clT_id hB, if_pos h]) k (by omega), Option.bind_some, if_pos h]
  have hn : ∀ l : List Int, (∀ x ∈ l, 0 ≤ x ∧ x < 1099511627776) → inLv (refAt first r) 0 0 l = [] := by
   intro l
   induction l with
   | nil => intro _; rfl
   | cons x s ih =>
    intro hx
    have h1 := hx x List.mem_cons_self
    have h2 : 0 ≤ nextU s := by
     cases s with
     | nil => exact (by decide : (0 : Int) ≤ 1099511627776)
     | cons y s => exact (hx y (List.mem_cons_of_mem _ List.mem_cons_self)).1
    rw [inLv, if_pos (by unfold mx mn; split <;> split <;> omega)]
    exact ih (fun y hy => hx y (List.mem_cons_of_mem _ hy))
  rw [hn _ (pieces_spec r 0 (Int.le_refl _)).2.2.1]
  dsimp only
  rw [if_pos (by simp), refAt_eq first r t (by omega) k (by omega)]
  rfl
 ·rw [in_eq first r hr _ _ (clT t) (addT t (max m 1)) (by rw [clT_id hB, if_neg h]) k (by omega), Option.bind_some, if_neg h]
  obtain ⟨hne, _⟩ := pieces_ne first r (clT t) (addT t (max m 1)) ⟨ra.1, by omega, hB.2⟩ 0
  have hlen := inLv_len (refAt first r) (clT t) (addT t (max m 1)) (piecesU r (clT t))
  have hpl := (pieces_spec r (clT t) ra.1).2.1
  generalize inLv (refAt first r) (clT t) (addT t (max m 1)) (piecesU r (clT t)) = xs at hne hlen ⊢
  dsimp only
  have hpos := List.length_pos_iff.2 hne
  rw [if_neg (by omega), if_pos (by omega)]
  have hh := least_l0 xs (by omega) xs.length k 0 (xs.headD 0) (by omega) (by omega) (by omega)
  have hrd : rd xs 0 = xs.headD 0 := by
   cases xs with
   | nil => exact absurd rfl hne
   | cons x s => rfl
  rw [hrd]
  simpa [minU] using hh
theorem leastRf_spec (first : Int) (r : List S98) (t M v : Int) (ht : 0 ≤ t ∧ t < 1099511627776) (hM : 1 ≤ M ∧ M ≤ 1099511627776) : leastRf first r t M ≥ v ↔ ∀ τ, t ≤ τ → τ < t + M → τ < 1099511627776 → refAt first r τ ≥ v := by
 have hge := addT_ge ht hM
 have hid := addT_id (x := t) (m := M) ⟨ht.1, by omega⟩ ⟨by omega, hM.2⟩
 unfold leastRf
 rw [clT_id ⟨ht.1, by omega⟩, if_neg (by omega)]
 obtain ⟨hne, hsp⟩ := pieces_ne first r t (addT t M) ⟨ht.1, hge⟩ v
 rw [minU_spec _ hne, hsp, hid]
 constructor
 ·intro hh τ h1 h2 h3
  refine hh τ h1 ?_
  split <;> omega
 ·intro hh τ h1 h2
  split at h2 <;> exact hh τ h1 (by omega) (by omega)
end Go.Proofs.Ytlddccmgamlccaa.Us
set_option linter.unusedVariables false
set_option linter.unusedSimpArgs false
namespace Go.Proofs.Ytlddccmgamlccaa.Us
open Go Go.Proofs Go.RowKit Go.Proofs.YtlddccmgamlccaaW.PrintWords Go.Proofs.YtlddccmgamlccaaW.PrintLast Go.Proofs.YtlddccmgamlccaaW.PrintMore Go.Proofs.Ytlddccmgamlccaa.PFind
open Go.Proofs.Ytlddccmgamlccaa.PFitRoom (S55 S98 k98 z98 rd_T98 rd_T55)
open Go.Proofs.SpanLaw (Sp Fine In fine_cons in_cons in_nil fine_nil puts_fine seek close put fine_unique)
open Go.Proofs.Ytlddccmgamlccaa.PJoin (cl cl_range alive cleaned cleaned_cons cleaned_lt cleaned_length in_cleaned)
def spR (x : S55) : Sp := (x.f0, x.f1)
theorem aliveR (x : S55) : alive (spR x) = decide (cl x.f0 < cl x.f1) := rfl
theorem refClean_tells (a b : Int) : berthingref01_Span_Clean.f a b = some (if cl a ≥ cl b then (0, 0) else (cl a, cl b)) := by rw [rclean_eq, cl_clT, cl_clT]
theorem rdR_get (l : List S55) (i : Nat) (h : i < l.length) : rd_T55 l (i : Int) = l[i] := by
 unfold PFitRoom.rd_T55
 rw [Int.toNat_natCast, List.getD_eq_getElem?_getD, List.getElem?_eq_getElem h, Option.getD_some]
theorem ref_l1 (d : Nat) : ∀ (k : Nat) (x0 x3 : List S55) (j : Int) (x6 : List S55) (dn : Bool) (i : Nat) (s0 s1 : Int), x3.length - i = d → i ≤ x3.length → x3.length < 4398046511104 → x6.length ≤ i + (if dn = true then 1 else 0) → d + 1 ≤ k →
  ∃ nx : List S55, nx.length ≤ x3.length + 1 ∧ nx.map spR = close (((x3.drop i).map spR).foldl seek (x6.map spR, dn, (s0, s1))) ∧
   berthingref01_Join.l1 k x0 x3 j x6 dn (i : Int) s0 s1 = berthingref01_Join.l0 (k - (d + 1)) x0 nx (wrap64 (j + 1)) := by
 induction d with
 | zero =>
  intro k x0 x3 j x6 dn i s0 s1 hd hi hm h6 hk
  obtain ⟨k, rfl⟩ : ∃ m, k = m + 1 := ⟨k - 1, by omega⟩
  have hdr : x3.drop i = [] := List.drop_of_length_le (by omega)
  simp only [berthingref01_Join.l1]
  rw [if_neg (by omega), hdr]
  cases dn with
  | true =>
   refine ⟨x6, by simp at h6; omega, by simp [close], ?_⟩
   rw [if_pos rfl]
   rfl
  | false =>
   simp at h6
   refine ⟨x6 ++ [⟨s0, s1⟩], by simp; omega, by simp [close, spR], ?_⟩
   rw [if_neg (by simp), if_pos (by omega)]
   rfl
 | succ d ih =>
  intro k x0 x3 j x6 dn i s0 s1 hd hi hm h6 hk
  obtain ⟨k, rfl⟩ : ∃ m, k = m + 1 := ⟨k - 1, by omega⟩
  have hli : i < x3.length := by omega
  have hdrop : x3.drop i = x3[i] :: x3.drop (i + 1) := List.drop_eq_getElem_cons hli
  have hw : wrap64 ((i : Int) + 1) = ((i + 1 : Nat) : Int) := by rw [PJoin.wrap_small (by omega) (by omega)]; omega
  have hk1 : k + 1 - (d + 1 + 1) = k - (d + 1) := by omega
  simp only [berthingref01_Join.l1]
  rw [if_pos (by omega), if_pos (by omega), rdR_get _ _ hli, hw, hdrop, List.map_cons, List.foldl_cons, hk1]
  by_cases c1 : x3[i].f1 < s0
  ·rw [if_pos c1, if_pos (by split at h6 <;> omega)]
   obtain ⟨nx, a1, a2, a3⟩ := ih k x0 x3 j (x6 ++ [⟨x3[i].f0, x3[i].f1⟩]) dn (i + 1) s0 s1 (by omega) (by omega) hm (by simp; omega) (by omega)
   refine ⟨nx, a1, ?_, a3⟩
   rw [a2]
   congr 2
   simp [seek, spR, c1]
  ·rw [if_neg c1]
   by_cases c2 : x3[i].f0 > s1
   ·rw [if_pos c2]
    cases dn with
    | true =>
     rw [if_pos rfl, if_pos (by split at h6 <;> omega)]
     obtain ⟨nx, a1, a2, a3⟩ := ih k x0 x3 j (x6 ++ [⟨x3[i].f0, x3[i].f1⟩]) true (i + 1) s0 s1 (by omega) (by omega) hm (by simp at h6 ⊢; omega) (by omega)
     refine ⟨nx, a1, ?_, a3⟩
     rw [a2]
     congr 2
     simp [seek, spR, c1, c2]
    | false =>
     simp at h6
     rw [if_neg (by simp), if_pos (by omega)]
     simp only [Option.bind_some]
     rw [if_pos (by simp; omega)]
     obtain ⟨nx, a1, a2, a3⟩ := ih k x0 x3 j (x6 ++ [⟨s0, s1⟩] ++ [⟨x3[i].f0, x3[i].f1⟩]) true (i + 1) s0 s1 (by omega) (by omega) hm (by simp; omega) (by omega)
     refine ⟨nx, a1, ?_, a3⟩
     rw [a2]
     congr 2
     simp [seek, spR, c1, c2]
   ·rw [if_neg c2]
    obtain ⟨nx, a1, a2, a3⟩ := ih k x0 x3 j x6 dn (i + 1) (mn s0 x3[i].f0) (mx s1 x3[i].f1) (by omega) (by omega) hm (by omega) (by omega)
    refine ⟨nx, a1, ?_, a3⟩
    rw [a2]
    congr 2
    have e1 : mn s0 x3[i].f0 = min s0 x3[i].f0 := by unfold mn; omega
    have e2 : mx s1 x3[i].f1 = max s1 x3[i].f1 := by unfold mx; omega
    simp [seek, spR, c1, c2, e1, e2]
theorem ref_l0 (d : Nat) : ∀ (k : Nat) (x0 x3 : List S55) (i : Nat), x0.length - i = d → i ≤ x0.length → x0.length < 1073741824 → x3.length ≤ i → d * (x0.length + 3) < k →
  ∃ r, berthingref01_Join.l0 k x0 x3 (i : Int) = some r ∧ r.map spR = (cleaned ((x0.drop i).map spR)).foldl put (x3.map spR) := by
 induction d with
 | zero =>
  intro k x0 x3 i hd hi hm h3 hk
  obtain ⟨k, rfl⟩ : ∃ m, k = m + 1 := ⟨k - 1, by omega⟩
  refine ⟨x3, ?_, ?_⟩
  ·simp only [berthingref01_Join.l0]
   rw [if_neg (by omega)]
  ·rw [List.drop_of_length_le (by omega)]
   rfl
 | succ d ih =>
  intro k x0 x3 i hd hi hm h3 hk
  obtain ⟨k, rfl⟩ : ∃ m, k = m + 1 := ⟨k - 1, by omega⟩
  rw [Nat.succ_mul] at hk
  have hli : i < x0.length := by omega
  have hdrop : x0.drop i = x0[i] :: x0.drop (i + 1) := List.drop_eq_getElem_cons hli
  have hw : wrap64 ((i : Int) + 1) = ((i + 1 : Nat) : Int) := by rw [PJoin.wrap_small (by omega) (by omega)]; omega
  simp only [berthingref01_Join.l0]
  rw [if_pos (by omega), if_pos (by omega), rdR_get _ _ hli, refClean_tells]
  simp only [Option.bind_some]
  rw [hdrop, List.map_cons, cleaned_cons]
  by_cases c : cl x0[i].f0 ≥ cl x0[i].f1
  ·rw [if_pos c, if_pos rfl, if_neg (by rw [aliveR]; simpa using c), hw]
   exact ih k x0 x3 (i + 1) (by omega) (by omega) hm (by omega) (by omega)
  ·rw [if_neg c, if_neg (by simp only []; omega), if_pos (by rw [aliveR]; simpa using c)]
   obtain ⟨nx, a1, a2, a3⟩ := ref_l1 x3.length k x0 x3 (i : Int) [] false 0 (cl x0[i].f0) (cl x0[i].f1) (by omega) (by omega) (by omega) (by simp) (by omega)
   simp only [Int.natCast_zero] at a3
   rw [a3, hw]
   obtain ⟨r, hr, hq⟩ := ih (k - (x3.length + 1)) x0 nx (i + 1) (by omega) (by omega) hm (by omega) (by omega)
   refine ⟨r, hr, ?_⟩
   rw [hq, a2]
   simp [put, spR]
theorem refJoin_tells (l : List S55) (hm : l.length < 1073741824) (k : Nat) (hk : l.length * (l.length + 3) < k) : ∃ r, berthingref01_Join.f k l = some r ∧ r.map spR = (cleaned (l.map spR)).foldl put [] := by
 obtain ⟨r, hr, hq⟩ := ref_l0 l.length k l [] 0 (by omega) (by omega) hm (Nat.le_refl _) (by omega)
 exact ⟨r, hr, by rw [hq]; simp⟩
def joinRef (l : List S55) : List S55 := ((cleaned (l.map spR)).foldl put []).map fun x => ⟨x.1, x.2⟩
theorem rjoin_eq (l : List S55) (hm : l.length < 1073741824) (k : Nat) (hk : l.length * (l.length + 3) < k) : berthingref01_Join.f k l = some (joinRef l) := by
 obtain ⟨r, hr, hq⟩ := refJoin_tells l hm k hk
 rw [hr]
 unfold joinRef
 rw [← hq, List.map_map]
 congr 1
 exact (List.map_id r).symm
def goodRf (first : Int) (r : List S98) (m v t : Int) : Bool := decide (t < 1099511627776) && decide (leastRf first r t (max m 1) ≥ v)
theorem rgood_eq (first : Int) (r : List S98) (hr : r.length < 1000) (t m v : Int) (k : Nat) (hk : 5 * r.length + 20 < k) : berthingref11_Good.f k first r t m v = some (goodRf first r m v t) := by
 unfold berthingref11_Good.f goodRf
 split
 ·rename_i h
  rw [leastRf_eq first r hr t m k hk, Option.bind_some, decide_eq_true h, Bool.true_and]
 ·rename_i h
  rw [decide_eq_false h, Bool.false_and]
theorem goodRf_iff (first : Int) (r : List S98) (m v t : Int) (hm : m ≤ 1099511627776) (ht : 0 ≤ t) : goodRf first r m v t = true ↔ t < 1099511627776 ∧ ∀ u, t ≤ u → u < t + max m 1 → u < 1099511627776 → refAt first r u ≥ v := by
 unfold goodRf
 rw [Bool.and_eq_true, decide_eq_true_eq, decide_eq_true_eq]
 constructor
 ·rintro ⟨h1, h2⟩
  exact ⟨h1, (leastRf_spec first r t (max m 1) v ⟨ht, h1⟩ ⟨by omega, by omega⟩).1 h2⟩
 ·rintro ⟨h1, h2⟩
  exact ⟨h1, (leastRf_spec first r t (max m 1) v ⟨ht, h1⟩ ⟨by omega, by omega⟩).2 h2⟩
theorem goodRf_stays (first : Int) (r : List S98) (m v f p q : Int) (hm : m ≤ 1099511627776) (hf : 0 ≤ f) (hp : f ≤ p) (hpq : p ≤ q) (hq : q < 1099511627776) (h : ∀ x ∈ ftimesR r f (max m 1), ¬ (p < x ∧ x ≤ q)) : goodRf first r m v p = goodRf first r m v q := by
 have hM : 1 ≤ max m 1 := by omega
 have hM2 : max m 1 ≤ 1099511627776 := by omega
 have h1 := goodRf_iff first r m v p hm (by omega)
 have h2 := goodRf_iff first r m v q hm (by omega)
 generalize max m 1 = M at h hM hM2 h1 h2
 have hno : ∀ y ∈ timesR r, ¬ (p < y ∧ y ≤ q) ∧ ¬ (p < y - M + 1 ∧ y - M + 1 ≤ q) := fun y hy => by
  have hs := (ftimesR_spec r f M).2.2
  exact ⟨fun hh => h y ((hs y).2 ⟨by omega, .inr ⟨y, hy, .inl rfl⟩⟩) hh, fun hh => h (y - M + 1) ((hs _).2 ⟨by omega, .inr ⟨y, hy, .inr (.inr rfl)⟩⟩) hh⟩
 refine Bool.eq_iff_iff.2 ?_
 rw [h1, h2]
 constructor
 ·rintro ⟨_, hg⟩
  refine ⟨hq, fun u h3 h4 h5 => ?_⟩
  rcases Int.lt_or_le u (p + M) with h6 | h6
  ·exact hg u (by omega) h6 h5
  ·rw [← refAt_stays first r (p + M - 1) u (by omega) (by omega) h5 (fun y hy hh => (hno y hy).2 (by omega))]
   exact hg _ (by omega) (by omega) (by omega)
 ·rintro ⟨_, hg⟩
  refine ⟨by omega, fun u h3 h4 h5 => ?_⟩
  rcases Int.lt_or_le u q with h6 | h6
  ·rw [refAt_stays first r u q (by omega) (by omega) hq (fun y hy hh => (hno y hy).1 (by omega))]
   exact hg q (Int.le_refl _) (by omega) hq
  ·exact hg u h6 (by omega) h5
def segsR (g : Int → Bool) : List Int → List S55
 | [] => []
 | x :: r => if g x = true then ⟨x, nextU r⟩ :: segsR g r else segsR g r
theorem segsR_len (g : Int → Bool) : ∀ l, (segsR g l).length ≤ l.length
 | [] => Nat.le_refl _
 | x :: r => by
  have := segsR_len g r
  unfold segsR
  split <;> simp only [List.length_cons] <;> omega
theorem segs_in (g : Int → Bool) (τ : Int) : ∀ (x : Int) (r : List Int), RiseU (x :: r) → (∀ y ∈ x :: r, 0 ≤ y ∧ y < 1099511627776) → (∀ p q, x ≤ p → p ≤ q → q < 1099511627776 → (∀ y ∈ x :: r, ¬ (p < y ∧ y ≤ q)) → g p = g q) →
  (In τ (cleaned ((segsR g (x :: r)).map spR)) ↔ x ≤ τ ∧ τ < 1099511627776 ∧ g τ = true)
 | x, [], hR, hx, hc => by
  have hx1 := hx x List.mem_cons_self
  have hm : ∀ y ∈ [x], ∀ q, ¬ (x < y ∧ y ≤ q) := fun y hy q => by
   obtain rfl := List.mem_singleton.1 hy
   omega
  have hcl : cl x = x ∧ cl 1099511627776 = 1099511627776 := by constructor <;> (unfold cl; (repeat' split) <;> omega)
  have key : x ≤ τ → τ < 1099511627776 → g x = g τ := fun h1 h2 => hc x τ (Int.le_refl _) h1 h2 (fun y hy => hm y hy τ)
  unfold segsR
  rw [in_cleaned]
  split
  ·rename_i hg
   constructor
   ·rintro ⟨a, ha, h1, h2⟩
    obtain rfl : a = (x, 1099511627776) := by simpa [segsR, spR, nextU] using ha
    dsimp only at h1 h2
    rw [hcl.1] at h1
    rw [hcl.2] at h2
    exact ⟨h1, h2, by rw [← key h1 h2]; exact hg⟩
   ·rintro ⟨h1, h2, h3⟩
    refine ⟨(x, 1099511627776), by simp [segsR, spR, nextU], ?_, ?_⟩
    ·dsimp only; rw [hcl.1]; exact h1
    ·dsimp only; rw [hcl.2]; exact h2
  ·rename_i hg
   constructor
   ·rintro ⟨a, ha, _⟩; simp [segsR] at ha
   ·rintro ⟨h1, h2, h3⟩
    exact absurd ((key h1 h2).trans h3) hg
 | x, y :: r, hR, hx, hc => by
  have hR' := List.pairwise_cons.1 hR
  have hxy := hR'.1 y List.mem_cons_self
  have hx1 := hx x List.mem_cons_self
  have hy1 := hx y (List.mem_cons_of_mem _ List.mem_cons_self)
  have ih := segs_in g τ y r hR'.2 (fun z hz => hx z (List.mem_cons_of_mem _ hz)) (fun p q h1 h2 h3 h4 => hc p q (by omega) h2 h3 (fun z hz => by
   rcases List.mem_cons.1 hz with rfl | hz
   ·omega
   ·exact h4 z hz))
  rw [in_cleaned] at ih ⊢
  have key : x ≤ τ → τ < y → g x = g τ := fun h1 h2 => hc x τ (Int.le_refl _) h1 (by omega) (fun z hz => by
   rcases List.mem_cons.1 hz with rfl | hz
   ·omega
   ·rcases List.mem_cons.1 hz with rfl | hz
    ·omega
    ·have := (List.pairwise_cons.1 hR'.2).1 z hz; omega)
  have hcl : cl x = x ∧ cl y = y := by constructor <;> (unfold cl; (repeat' split) <;> omega)
  rw [segsR]
  split
  ·rename_i hg
   rw [List.map_cons]
   constructor
   ·rintro ⟨a, ha, h1, h2⟩
    rcases List.mem_cons.1 ha with rfl | ha
    ·have h1' : cl x ≤ τ := h1
     have h2' : τ < cl y := h2
     rw [hcl.1] at h1'
     rw [hcl.2] at h2'
     exact ⟨h1', by omega, by rw [← key h1' h2']; exact hg⟩
    ·obtain ⟨h3, h4, h5⟩ := ih.1 ⟨a, ha, h1, h2⟩
     exact ⟨by omega, h4, h5⟩
   ·rintro ⟨h1, h2, h3⟩
    rcases Int.lt_or_le τ y with h4 | h4
    ·refine ⟨spR ⟨x, y⟩, List.mem_cons_self, ?_, ?_⟩
     ·show cl x ≤ τ; rw [hcl.1]; exact h1
     ·show τ < cl y; rw [hcl.2]; exact h4
    ·obtain ⟨a, ha, h5⟩ := ih.2 ⟨h4, h2, h3⟩
     exact ⟨a, List.mem_cons_of_mem _ ha, h5⟩
  ·rename_i hg
   rw [ih]
   constructor
   ·rintro ⟨h1, h2, h3⟩; exact ⟨by omega, h2, h3⟩
   ·rintro ⟨h1, h2, h3⟩
    rcases Int.lt_or_le τ y with h4 | h4
    ·exact absurd ((key h1 h4).trans h3) hg
    ·exact ⟨h4, h2, h3⟩
theorem rstarts_l0 (first : Int) (r : List S98) (hr : r.length < 1000) (m v : Int) (l : List Int) (hl : l.length < 100000) : ∀ (d k i : Nat) (o : List S55), l.length - i = d → i ≤ l.length → d + 5 * r.length + 30 < k → o.length + d < 1000000 →
  berthingref11_Starts.l0 k m v o l (i : Int) first r = berthingref01_Join.f (k - (d + 1)) (o ++ segsR (goodRf first r m v) (l.drop i))
 | 0, k, i, o, hd, hi, hk, ho => by
  obtain ⟨k, rfl⟩ : ∃ m, k = m + 1 := ⟨k - 1, by omega⟩
  simp only [berthingref11_Starts.l0]
  rw [if_neg (by omega), List.drop_of_length_le (by omega)]
  simp only [segsR, List.append_nil]
  show Option.bind (berthingref01_Join.f k o) some = berthingref01_Join.f k o
  cases berthingref01_Join.f k o <;> rfl
 | d + 1, k, i, o, hd, hi, hk, ho => by
  obtain ⟨k, rfl⟩ : ∃ m, k = m + 1 := ⟨k - 1, by omega⟩
  have hlt : i < l.length := by omega
  have e := List.drop_eq_getElem_cons hlt
  have ih := fun o' => rstarts_l0 first r hr m v l hl d k (i + 1) o' (by omega) (by omega) (by omega)
  have hk1 : k + 1 - (d + 1 + 1) = k - (d + 1) := by omega
  simp only [berthingref11_Starts.l0]
  rw [if_pos (by omega), wrapN (by omega), rdU i hlt, rgood_eq first r hr _ _ _ k (by omega), e, segsR, hk1]
  simp only [Option.bind_some]
  rcases Nat.lt_or_ge (i + 1) l.length with h1 | h1
  ·rw [if_pos (by omega), if_pos (by omega), if_pos (by omega), rdU (i + 1) h1]
   have e2 : nextU (l.drop (i + 1)) = l[i + 1] := by rw [List.drop_eq_getElem_cons h1]; rfl
   rw [e2]
   split
   ·rw [if_pos (by omega), ih _ (by simp; omega), List.append_assoc]
    rfl
   ·exact ih _ (by omega)
  ·rw [if_neg (by omega), if_pos (by omega)]
   have e2 : nextU (l.drop (i + 1)) = 1099511627776 := by rw [List.drop_of_length_le h1]; rfl
   rw [e2]
   split
   ·rw [if_pos (by omega), ih _ (by simp; omega), List.append_assoc]
    rfl
   ·exact ih _ (by omega)
def toR (x : Int × Int) : S55 := ⟨x.1, x.2⟩
theorem ftimes_head (r : List S98) (f M : Int) (hf : 0 ≤ f) : (f < 1099511627776 ∧ ∃ s, ftimesR r f M = f :: s) ∨ (¬ f < 1099511627776 ∧ ftimesR r f M = []) := by
 obtain ⟨h1, _, h2⟩ := ftimesR_spec r f M
 rcases Int.lt_or_le f 1099511627776 with h | h
 ·left
  refine ⟨h, ?_⟩
  have hm : f ∈ ftimesR r f M := (h2 f).2 ⟨⟨Int.le_refl _, h⟩, .inl rfl⟩
  cases hq : ftimesR r f M with
  | nil => rw [hq] at hm; simp at hm
  | cons x s =>
   rw [hq] at hm h1
   have hx := ((h2 x).1 (by rw [hq]; exact List.mem_cons_self)).1
   rcases List.mem_cons.1 hm with h3 | h3
   ·exact ⟨s, by rw [h3]⟩
   ·have := (List.pairwise_cons.1 h1).1 f h3; omega
 ·right
  refine ⟨by omega, ?_⟩
  cases hq : ftimesR r f M with
  | nil => rfl
  | cons x s => have hx := ((h2 x).1 (by rw [hq]; exact List.mem_cons_self)).1; omega
theorem goodRf_lev (first : Int) (r : List S98) (L : List (Int × Int)) (hs : ∀ τ, 0 ≤ τ ∧ τ < 1099511627776 → refAt first r τ = lev L τ) (m v t : Int) (hm : m ≤ 1099511627776) (ht : 0 ≤ t) : goodRf first r m v t = true ↔ Good L (max m 1) v t := by
 rw [goodRf_iff first r m v t hm ht]
 unfold Good
 constructor
 ·rintro ⟨h1, h2⟩
  exact ⟨h1, fun u h3 h4 h5 => by rw [← hs u ⟨by omega, h5⟩]; exact h2 u h3 h4 h5⟩
 ·rintro ⟨h1, h2⟩
  exact ⟨h1, fun u h3 h4 h5 => by rw [hs u ⟨by omega, h5⟩]; exact h2 u h3 h4 h5⟩
theorem rstarts_eq (first : Int) (r : List S98) (hr : r.length < 30) (L : List (Int × Int)) (hL : Lev L) (hs : ∀ τ, 0 ≤ τ ∧ τ < 1099511627776 → refAt first r τ = lev L τ) (fr m v : Int) (hm : m ≤ 1099511627776) (k : Nat) (hk : 60000 < k) :
  berthingref11_Starts.f k first r fr m v = some ((startsR L fr m v).map toR) := by
 have rf := clT_range fr
 obtain ⟨h1, h2, h3⟩ := ftimesR_spec r (clT fr) (max m 1)
 unfold berthingref11_Starts.f
 rw [rclamp_eq, Option.bind_some, ftimes_eq first r _ m hm (by omega) k (by omega), Option.bind_some]
 have hh := rstarts_l0 first r (by omega) m v (ftimesR r (clT fr) (max m 1)) (by omega) _ k 0 [] rfl (Nat.zero_le _) (by omega) (by simp; omega)
 have hlen := segsR_len (goodRf first r m v) (ftimesR r (clT fr) (max m 1))
 rw [Int.natCast_zero] at hh
 rw [hh, List.drop_zero, List.nil_append]
 have hsq : (segsR (goodRf first r m v) (ftimesR r (clT fr) (max m 1))).length * ((segsR (goodRf first r m v) (ftimesR r (clT fr) (max m 1))).length + 3) ≤ 200 * 203 := Nat.mul_le_mul (by omega) (by omega)
 rw [rjoin_eq _ (by omega) _ (by omega)]
 congr 1
 unfold joinRef
 have hfine : Fine (startsR L fr m v) := ⟨(starts_fine L fr m v).1, fun a ha => ((starts_fine L fr m v).2 a ha).1⟩
 obtain ⟨hf2, hi2⟩ := puts_fine (cleaned ((segsR (goodRf first r m v) (ftimesR r (clT fr) (max m 1))).map spR)) [] fine_nil (cleaned_lt _)
 have heq : (cleaned ((segsR (goodRf first r m v) (ftimesR r (clT fr) (max m 1))).map spR)).foldl put [] = startsR L fr m v := by
  refine fine_unique _ _ hf2 hfine (fun τ => ?_)
  rw [hi2]
  have hst : In τ (startsR L fr m v) ↔ clT fr ≤ τ ∧ Good L (max m 1) v τ := starts_good hL fr m v τ
  rw [hst]
  rcases ftimes_head r (clT fr) (max m 1) rf.1 with ⟨h4, s, h5⟩ | ⟨h4, h5⟩
  ·have hin := segs_in (goodRf first r m v) τ (clT fr) s (by rw [← h5]; exact h1) (fun y hy => by rw [← h5] at hy; have := ((h3 y).1 hy).1; omega) (fun p q h6 h7 h8 h9 => goodRf_stays first r m v (clT fr) p q hm rf.1 h6 h7 h8 (by rw [h5]; exact h9))
   rw [h5, hin]
   constructor
   ·rintro (h6 | h6)
    ·exact absurd h6 (in_nil _)
    ·exact ⟨h6.1, (goodRf_lev first r L hs m v τ hm (by omega)).1 h6.2.2⟩
   ·rintro ⟨h6, h7⟩
    exact .inr ⟨h6, h7.1, (goodRf_lev first r L hs m v τ hm (by omega)).2 h7⟩
  ·rw [h5]
   constructor
   ·rintro (h6 | h6)
    ·exact absurd h6 (in_nil _)
    ·obtain ⟨a, ha, _⟩ := h6; simp [segsR, cleaned] at ha
   ·rintro ⟨h6, h7⟩
    have := h7.1; omega
 rw [heq]
 rfl
theorem rearly_l0 (first : Int) (r : List S98) (hr : r.length < 1000) (m v : Int) (l : List Int) (hl : l.length < 100000) : ∀ (d k i : Nat), l.length - i = d → i ≤ l.length → d + 5 * r.length + 30 < k →
  berthingref11_Earliest.l0 k m v l (i : Int) first r = some (((l.drop i).find? (goodRf first r m v)).getD 1099511627776)
 | 0, k, i, hd, hi, hk => by
  obtain ⟨k, rfl⟩ : ∃ m, k = m + 1 := ⟨k - 1, by omega⟩
  simp only [berthingref11_Earliest.l0]
  rw [if_neg (by omega), List.drop_of_length_le (by omega)]
  rfl
 | d + 1, k, i, hd, hi, hk => by
  obtain ⟨k, rfl⟩ : ∃ m, k = m + 1 := ⟨k - 1, by omega⟩
  have hlt : i < l.length := by omega
  have e := List.drop_eq_getElem_cons hlt
  have ih := rearly_l0 first r hr m v l hl d k (i + 1) (by omega) (by omega) (by omega)
  simp only [berthingref11_Earliest.l0]
  rw [if_pos (by omega), if_pos (by omega), wrapN (by omega), rdU i hlt, rgood_eq first r hr _ _ _ k (by omega), e, Option.bind_some, List.find?_cons]
  split
  ·rename_i h; rw [h]; rfl
  ·rename_i h
   rw [show goodRf first r m v l[i] = false by simpa using h]
   exact ih
theorem find_least (g : Int → Bool) : ∀ (x : Int) (r : List Int), RiseU (x :: r) → (∀ y ∈ x :: r, y < 1099511627776) → (∀ p q, x ≤ p → p ≤ q → q < 1099511627776 → (∀ y ∈ x :: r, ¬ (p < y ∧ y ≤ q)) → g p = g q) →
  ∀ τ, x ≤ τ → τ < 1099511627776 → g τ = true → ((x :: r).find? g).getD 1099511627776 ≤ τ
 | x, [], hR, hx, hc, τ, h1, h2, h3 => by
  have hg : g x = g τ := hc x τ (Int.le_refl _) h1 h2 (fun y hy => by obtain rfl := List.mem_singleton.1 hy; omega)
  rw [List.find?_cons, hg, h3]
  exact h1
 | x, y :: r, hR, hx, hc, τ, h1, h2, h3 => by
  have hR' := List.pairwise_cons.1 hR
  have hxy := hR'.1 y List.mem_cons_self
  rw [List.find?_cons]
  cases hg : g x with
  | true => exact h1
  | false =>
   dsimp only
   rcases Int.lt_or_le τ y with h4 | h4
   ·have : g x = g τ := hc x τ (Int.le_refl _) h1 h2 (fun z hz => by
     rcases List.mem_cons.1 hz with rfl | hz
     ·omega
     ·rcases List.mem_cons.1 hz with rfl | hz
      ·omega
      ·have := (List.pairwise_cons.1 hR'.2).1 z hz; omega)
    rw [hg, h3] at this
    cases this
   ·exact find_least g y r hR'.2 (fun z hz => hx z (List.mem_cons_of_mem _ hz)) (fun p q h5 h6 h7 h8 => hc p q (by omega) h6 h7 (fun z hz => by
     rcases List.mem_cons.1 hz with rfl | hz
     ·omega
     ·exact h8 z hz)) τ h4 h2 h3
theorem rearly_eq (first : Int) (r : List S98) (hr : r.length < 30) (L : List (Int × Int)) (hL : Lev L) (hs : ∀ τ, 0 ≤ τ ∧ τ < 1099511627776 → refAt first r τ = lev L τ) (fr m v : Int) (hm : m ≤ 1099511627776) (k : Nat) (hk : 60000 < k) :
  berthingref11_Earliest.f k first r fr m v = some (earlyL L fr m v) := by
 have rf := clT_range fr
 obtain ⟨h1, h2, h3⟩ := ftimesR_spec r (clT fr) (max m 1)
 obtain ⟨e1, e2, e3, e4⟩ := early_spec hL fr m v
 unfold berthingref11_Earliest.f
 rw [rclamp_eq, Option.bind_some, ftimes_eq first r _ m hm (by omega) k (by omega), Option.bind_some]
 have hh := rearly_l0 first r (by omega) m v (ftimesR r (clT fr) (max m 1)) (by omega) _ k 0 rfl (Nat.zero_le _) (by omega)
 rw [Int.natCast_zero] at hh
 rw [hh, List.drop_zero]
 congr 1
 rcases ftimes_head r (clT fr) (max m 1) rf.1 with ⟨h4, s, h5⟩ | ⟨h4, h5⟩
 ·have hle := find_least (goodRf first r m v) (clT fr) s (by rw [← h5]; exact h1) (fun y hy => by rw [← h5] at hy; have := ((h3 y).1 hy).1; omega) (fun p q h6 h7 h8 h9 => goodRf_stays first r m v (clT fr) p q hm rf.1 h6 h7 h8 (by rw [h5]; exact h9))
  rw [h5]
  cases hq : (clT fr :: s).find? (goodRf first r m v) with
  | none =>
   rw [hq] at hle
   show (1099511627776 : Int) = _
   rcases Int.lt_or_le (earlyL L fr m v) 1099511627776 with h6 | h6
   ·have := e1 h6
    have h7 := hle _ this.1 h6 ((goodRf_lev first r L hs m v _ hm (by omega)).2 this.2)
    have h8 : (1099511627776 : Int) ≤ earlyL L fr m v := h7
    omega
   ·omega
  | some y =>
   rw [hq] at hle
   show y = _
   have hy := List.mem_of_find?_eq_some hq
   have hg := List.find?_some hq
   rw [← h5] at hy
   have hy2 := ((h3 y).1 hy).1
   have h6 := e2 y hy2.1 ((goodRf_lev first r L hs m v y hm (by omega)).1 hg)
   have h7 := e1 (by omega)
   have h8 : y ≤ earlyL L fr m v := hle _ h7.1 (by omega) ((goodRf_lev first r L hs m v _ hm (by omega)).2 h7.2)
   omega
 ·rw [h5]
  show (1099511627776 : Int) = _
  rcases Int.lt_or_le (earlyL L fr m v) 1099511627776 with h6 | h6
  ·have := e1 h6; omega
  ·omega
theorem rleast_eq (first : Int) (r : List S98) (hr : r.length < 30) (L : List (Int × Int)) (hL : Lev L) (hs : ∀ τ, 0 ≤ τ ∧ τ < 1099511627776 → refAt first r τ = lev L τ) (fr m : Int) (hm : m ≤ 1099511627776) (k : Nat) (hk : 60000 < k) :
  berthingref11_Least.f k first r (clT fr) m = some (widestL L fr m) := by
 have rf := clT_range fr
 rw [leastRf_eq first r (by omega) _ _ k (by omega)]
 congr 1
 have hmx : mx m 1 = max m 1 := by unfold mx; split <;> omega
 unfold widestL
 rw [hmx]
 have hadd : addT (clT fr) (max m 1) = addT fr (max m 1) := by unfold addT; rw [clT_id rf]
 rcases Int.lt_or_le (clT fr) 1099511627776 with h | h
 ·have hge := addT_ge (x := clT fr) (m := max m 1) ⟨rf.1, h⟩ ⟨by omega, by omega⟩
  have hid := addT_id (x := clT fr) (m := max m 1) rf ⟨by omega, by omega⟩
  rw [hadd] at hge hid
  rw [if_neg (by omega)]
  have key : ∀ v, leastRf first r (clT fr) (max m 1) ≥ v ↔ leastL L (clT fr) (addT fr (max m 1)) ≥ v := fun v => by
   rw [leastRf_spec first r _ _ v ⟨rf.1, h⟩ ⟨by omega, by omega⟩, least_spec hL _ _ v (by rw [clT_id rf, clT_id ⟨by omega, hge.2⟩]; exact hge.1), clT_id rf, clT_id (t := addT fr (max m 1)) ⟨by omega, hge.2⟩, hid]
   constructor
   ·intro hh τ h1 h2
    rw [← hs τ ⟨by omega, by split at h2 <;> omega⟩]
    split at h2 <;> exact hh τ h1 (by omega) (by omega)
   ·intro hh τ h1 h2 h3
    rw [hs τ ⟨by omega, h3⟩]
    exact hh τ h1 (by split <;> omega)
  have k1 := (key (leastRf first r (clT fr) (max m 1))).1 (Int.le_refl _)
  have k2 := (key (leastL L (clT fr) (addT fr (max m 1)))).2 (Int.le_refl _)
  omega
 ·have hN : clT fr = 1099511627776 := by omega
  have hge : clT fr ≥ addT fr (max m 1) := by have := clT_range (clT fr + clT (max m 1)); unfold addT; omega
  unfold leastRf
  rw [clT_id rf, hadd, if_pos hge, if_pos hge, atL_lev hL, ← hs _ (atT_atT fr), refAt_atT first r (clT fr)]
  congr 1
  unfold atT
  rw [clT_id rf]
theorem rcutP_eq (a b x e : Int) : berthingref01_Span_Cut.f a b x e = some (cutP a b x e) := by
 have ra := clT_range a
 have rb := clT_range b
 have rx := clT_range x
 have re := clT_range e
 unfold berthingref01_Span_Cut.f cutP
 rw [rclean_eq, rclean_eq]
 simp only [Option.bind_some]
 rw [rclean_eq]
 simp only [Option.bind_some]
 by_cases h1 : clT a ≥ clT b <;> by_cases h2 : clT x ≥ clT e
 all_goals (first | rw [if_pos h1] | rw [if_neg h1])
 all_goals (first | rw [if_pos h2] | rw [if_neg h2])
 all_goals dsimp only
 all_goals rw [clT_id (mx_range (by omega) (by omega)), clT_id (mn_range (by omega) (by omega))]
 ·rw [if_pos (by unfold mx mn; (repeat' split) <;> omega), if_pos (by unfold mx mn; (repeat' split) <;> omega)]
 ·rw [if_pos (by unfold mx mn; (repeat' split) <;> omega), if_pos (by unfold mx mn; (repeat' split) <;> omega)]
 ·rw [if_pos (by unfold mx mn; (repeat' split) <;> omega), if_pos (by unfold mx mn; (repeat' split) <;> omega)]
def lastF (ta tb : Int) (acc : Int × Bool) (x : Int × Int) : Int × Bool := if cutP x.1 x.2 ta tb = (0, 0) then acc else ((cutP x.1 x.2 ta tb).2 - 1, true)
theorem cutP_zero (a b x e : Int) : cutP a b x e = (0, 0) ↔ (cutP a b x e).1 ≥ (cutP a b x e).2 := by
 have ra := clT_range a
 have rb := clT_range b
 unfold cutP
 split
 ·exact ⟨fun _ => Int.le_refl _, fun _ => rfl⟩
 ·rename_i h
  dsimp only
  constructor
  ·intro hh
   have h1 := congrArg Prod.fst hh
   have h2 := congrArg Prod.snd hh
   dsimp only at h1 h2
   omega
  ·intro hh; exact absurd hh h
theorem lastF_all (ta tb : Int) : ∀ (n : Nat) (xs : List (Int × Int)), xs.length = n → (∀ x ∈ xs, latE ta tb x = false) → xs.foldl (lastF ta tb) (0, false) = latO ta tb xs
 | 0, xs, hn, _ => by obtain rfl := List.eq_nil_of_length_eq_zero hn; rfl
 | n + 1, xs, hn, h => by
  obtain ⟨ys, x, rfl⟩ : ∃ ys x, xs = ys ++ [x] := by
   rcases List.eq_nil_or_concat xs with rfl | ⟨ys, x, rfl⟩
   ·simp at hn
   ·exact ⟨ys, x, List.concat_eq_append⟩
  rw [List.foldl_append, latO_snoc, List.foldl_cons, List.foldl_nil]
  have hx := h x (by simp)
  unfold latE at hx
  unfold lastF
  rw [if_neg (fun hh => of_decide_eq_false hx ((cutP_zero _ _ _ _).1 hh))]
theorem lastF_none (ta tb : Int) : ∀ (xs : List (Int × Int)) (acc : Int × Bool), (∀ x ∈ xs, latE ta tb x = true) → xs.foldl (lastF ta tb) acc = acc
 | [], acc, _ => rfl
 | x :: r, acc, h => by
  have hx := h x List.mem_cons_self
  unfold latE at hx
  rw [List.foldl_cons, show lastF ta tb acc x = acc from by unfold lastF; rw [if_pos ((cutP_zero _ _ _ _).2 (of_decide_eq_true hx))]]
  exact lastF_none ta tb r acc (fun y hy => h y (List.mem_cons_of_mem _ hy))
theorem lastF_split (ta tb : Int) : ∀ (xs : List (Int × Int)), xs.Pairwise (fun a b => a.2 < b.1) → (∀ x ∈ xs, x.1 < x.2 ∧ clT ta ≤ x.1 ∧ x.2 ≤ 1099511627776) → ∀ x ∈ xs.dropWhile (fun x => !latE ta tb x), latE ta tb x = true
 | [], _, _, x, hx => by simp at hx
 | y :: r, hp, hr, x, hx => by
  have hp' := List.pairwise_cons.1 hp
  have hy := hr y List.mem_cons_self
  have ra := clT_range ta
  have rb := clT_range tb
  rw [List.dropWhile_cons] at hx
  have key : ∀ z : Int × Int, z.1 < z.2 → clT ta ≤ z.1 → z.2 ≤ 1099511627776 → (latE ta tb z = true ↔ clT tb ≤ z.1) := fun z h1 h2 h3 => by
   unfold latE
   rw [decide_eq_true_eq, ← cutP_zero]
   have e1 := clT_id (t := z.1) ⟨by omega, by omega⟩
   have e2 := clT_id (t := z.2) ⟨by omega, by omega⟩
   unfold cutP
   rw [e1, e2]
   constructor
   ·intro hh
    split at hh
    ·rename_i hc; unfold mx mn at hc; split at hc <;> split at hc <;> omega
    ·rename_i hc
     have h4 := congrArg Prod.fst hh
     have h5 := congrArg Prod.snd hh
     dsimp only at h4 h5
     omega
   ·intro hh
    rw [if_pos (by unfold mx mn; (repeat' split) <;> omega)]
  split at hx
  ·exact lastF_split ta tb r hp'.2 (fun z hz => hr z (List.mem_cons_of_mem _ hz)) x hx
  ·rename_i hc
   have hc' : latE ta tb y = true := by simpa using hc
   have h1 := (key y hy.1 hy.2.1 hy.2.2).1 hc'
   rcases List.mem_cons.1 hx with rfl | hx
   ·exact hc'
   ·have h2 := hr x (List.mem_cons_of_mem _ hx)
    have h3 := hp'.1 x hx
    exact (key x h2.1 h2.2.1 h2.2.2).2 (by omega)
theorem last_eq (L : List (Int × Int)) (hL : Lev L) (ta tb m v : Int) : (startsR L ta m v).foldl (lastF ta tb) (0, false) = latestL L ta tb m v := by
 obtain ⟨hp, hx⟩ := starts_fine L ta m v
 have hf : ∀ x ∈ startsR L ta m v, clT ta ≤ x.1 := fun x hx' => ((starts_good hL ta m v x.1).1 ⟨x, hx', Int.le_refl _, (hx x hx').1⟩).1
 have hs := lastF_split ta tb (startsR L ta m v) hp (fun x hx' => ⟨(hx x hx').1, hf x hx', (hx x hx').2.2⟩)
 unfold latestL
 have hall : ∀ (p : (Int × Int) → Bool) (l : List (Int × Int)), ∀ x ∈ l.takeWhile p, p x = true := by
  intro p l
  induction l with
  | nil => intro x hx; simp at hx
  | cons y r ih =>
   intro x hx
   rw [List.takeWhile_cons] at hx
   split at hx
   ·rename_i hy
    rcases List.mem_cons.1 hx with rfl | hx
    ·exact hy
    ·exact ih x hx
   ·simp at hx
 have h1 := lastF_all ta tb _ ((startsR L ta m v).takeWhile fun x => !latE ta tb x) rfl (fun x hx => by have := hall _ _ x hx; simpa using this)
 rw [← h1]
 conv => lhs; rw [← List.takeWhile_append_dropWhile (p := fun x => !latE ta tb x) (l := startsR L ta m v), List.foldl_append]
 exact lastF_none ta tb _ _ hs
end Go.Proofs.Ytlddccmgamlccaa.Us
set_option linter.unusedVariables false
set_option linter.unusedSimpArgs false
namespace Go.Proofs.Ytlddccmgamlccaa.Us
open Go Go.Proofs Go.RowKit Go.Lib Go.Proofs.YtlddccmgamlccaaW.PrintWords Go.Proofs.YtlddccmgamlccaaW.PrintLast Go.Proofs.YtlddccmgamlccaaW.PrintMore Go.Proofs.Ytlddccmgamlccaa.PFind
open Go.Proofs.Ytlddccmgamlccaa.PFitRoom (S55 S98 k98 z98 rd_T98 k55 z55)
variable (first : Int) (r : List S98) (hr : r.length < 30) (L : List (Int × Int)) (hL : Lev L) (hs : ∀ τ, 0 ≤ τ ∧ τ < 1099511627776 → refAt first r τ = lev L τ) (fr m v : Int) (hm : m ≤ 1099511627776) (A : Option Addr) (c : Nat) (w : World) (hC : Kd.C k98 w A r.length r) (hc : r.length ≤ c)
include hr hL hs hm hC hc
theorem rstarts_calls : Calls Try.prog 19 #[.agg #[.int .i64 first, .slice A r.length c], .int .i64 fr, .int .i64 m, .int .i64 v] w fun e w' => ∃ v0 : Value, e = .returned v0 ∧ Kd.R k55 55 w' w.heap.size (fun _ => True) v0 ((startsR L fr m v).map toR) ∧ Below w.heap.size w w' :=
 berthingref11_Starts.calls 60001 first A c r fr m v _ w hC hc (rstarts_eq first r hr L hL hs fr m v hm 60001 (by omega))
theorem rearly_calls : Calls Try.prog 23 #[.agg #[.int .i64 first, .slice A r.length c], .int .i64 fr, .int .i64 m, .int .i64 v] w fun e w' => e = .returned (.int .i64 (earlyL L fr m v)) ∧ Below w.heap.size w w' :=
 berthingref11_Earliest.calls 60001 first A c r fr m v _ w hC hc (rearly_eq first r hr L hL hs fr m v hm 60001 (by omega))
theorem rleast_calls : Calls Try.prog 24 #[.agg #[.int .i64 first, .slice A r.length c], .int .i64 (clT fr), .int .i64 m] w fun e w' => e = .returned (.int .i64 (widestL L fr m)) ∧ Below w.heap.size w w' :=
 berthingref11_Least.calls 60001 first A c r (clT fr) m _ w hC hc (rleast_eq first r hr L hL hs fr m hm 60001 (by omega))
omit hr hL hs hm hC hc
theorem rclamp_calls (t : Int) (w : World) : Calls Try.prog 25 #[.int .i64 t] w fun e w' => e = .returned (.int .i64 (clT t)) ∧ Below w.heap.size w w' := (berthingref01_Clamp.calls t _ w (rclamp_eq t)).mono fun _ _ h => ⟨h.1, Drawn0.below h.2⟩
theorem rcut_calls (a b x e : Int) (w : World) : Calls Try.prog 21 #[.agg #[.int .i64 a, .int .i64 b], .agg #[.int .i64 x, .int .i64 e]] w fun ev w' => ev = .returned (.agg #[.int .i64 (cutP a b x e).1, .int .i64 (cutP a b x e).2]) ∧ Below w.heap.size w w' :=
 berthingref01_Span_Cut.calls a b x e _ _ w (rcutP_eq a b x e)
theorem starts_len' (l : List (Int × Int)) (h : Lev l) (t m v : Int) : (startsR l t m v).length ≤ l.length := by
 have h1 : (startsR l t m v).length ≤ (wideR l t v).length := List.length_filterMap_le _ _
 have h2 : (wideR l t v).length = (PJoin.joined (wideN l t v l.length)).length := by unfold wideR PJoin.joinR; rw [List.length_map]
 have h3 := PJoin.joined_length (wideN l t v l.length)
 have h4 := wideN_len l t v l.length
 omega
theorem spans_all' (l : List (Int × Int)) (h : Lev l) (hn : l.length ≤ 200) (t m v : Int) : spansL l t m v = startsR l t m v := by
 have := starts_len' l h t m v
 exact List.take_of_length_le (by omega)
def RRow (w : World) (A : Option Addr) (S : List (Int × Int)) : Prop :=
 ∀ i (hi : i < S.length), ∃ g, A = some ⟨g, 0, none⟩ ∧ w.cell? ⟨g, i * 2, none⟩ = some (.int .i64 S[i].1) ∧ w.cell? ⟨g, i * 2 + 1, none⟩ = some (.int .i64 S[i].2)
theorem RRow.below {w w1 : World} {A : Option Addr} {S : List (Int × Int)} (h : RRow w A S) (hb : Below w.heap.size w w1) : RRow w1 A S := fun i hi => by
 obtain ⟨g, e1, e2, e3⟩ := h i hi
 exact ⟨g, e1, below_cell1 hb e2, below_cell1 hb e3⟩
theorem rrow_ref {w : World} {B : Nat} {ok : Nat → Prop} {A : Option Addr} {n c : Nat} {S : List (Int × Int)} (h : Kd.R k55 55 w B ok (.slice A n c) (S.map toR)) : RRow w A S := by
 intro j hj
 have hj' : j < (S.map toR).length := by simpa using hj
 obtain ⟨g, c', e, hb, hl, cs, hcs⟩ := Kd.R_form h (by omega)
 injection e with e1 e2 e3
 subst e1
 obtain ⟨ce, h1, h2, h3, h4⟩ := Kd.R_elem h z55 (j : Int) (by omega) (by omega)
 obtain rfl := PFitRoom.k55_openM h2
 have hx : (S.map toR).getD (j : Int).toNat z55 = toR S[j] := by
  rw [Int.toNat_natCast, List.getD_eq_getElem?_getD, List.getElem?_eq_getElem hj', Option.getD_some, List.getElem_map]
 rw [hx] at h3
 exact ⟨g, rfl, h3 0 _ rfl, h3 1 _ rfl⟩
theorem rrow_sp {w : World} {B : Nat} {ok : Nat → Prop} {A : Option Addr} {n c : Nat} {S : List (Int × Int)} (h : Kd.R PJoin.k25 25 w B ok (.slice A n c) (S.map toS)) : RRow w A S := fun i hi => by
 obtain ⟨g, e1, e2, cs, e3, e4, e5⟩ := spRow_of h i (by simpa using hi)
 rw [List.getElem_map] at e4 e5
 exact ⟨g, e1, (blk_cell e3 _).trans e4, (blk_cell e3 _).trans e5⟩
structure FK (w0 : World) (g8 p q cc cv : Nat) (Av : Option Addr) (first fr m W ta tb : Int) (r : List S98) (L : List (Int × Int)) (wk : World) : Prop where
 st : StepsIs wk p q cc L
 box : wk.heap[w0.heap.size]? = some (.cells #[.int .i64 fr, .int .i64 m, .int .i64 W, .int .i64 ta, .int .i64 tb] 27 (0, 0))
 ref : wk.heap[g8]? = some (.cells #[.int .i64 first, .slice Av r.length cv] 31 (0, 0))
 row : Kd.C k98 wk Av r.length r
 cap : r.length ≤ cv
 bel : Below w0.heap.size w0 wk
variable {w0 wk w1 : World} {g8 p q cc cv : Nat} {Av : Option Addr} {first fr m W ta tb : Int} {r : List S98} {L : List (Int × Int)}
theorem FK.below (h : FK w0 g8 p q cc cv Av first fr m W ta tb r L wk) (hb : Below wk.heap.size wk w1) : FK w0 g8 p q cc cv Av first fr m W ta tb r L w1 :=
 ⟨h.st.below hb, blk_below h.box hb, blk_below h.ref hb, Kd.C_below h.row hb, h.cap, below_step h.bel hb⟩
theorem FK.cells (h : FK w0 g8 p q cc cv Av first fr m W ta tb r L wk) : wk.cell? ⟨w0.heap.size, 0, none⟩ = some (.int .i64 fr) ∧ wk.cell? ⟨w0.heap.size, 1, none⟩ = some (.int .i64 m) ∧ wk.cell? ⟨w0.heap.size, 2, none⟩ = some (.int .i64 W) ∧ wk.cell? ⟨w0.heap.size, 3, none⟩ = some (.int .i64 ta) ∧ wk.cell? ⟨w0.heap.size, 4, none⟩ = some (.int .i64 tb) ∧ wk.cell? ⟨g8, 0, none⟩ = some (.int .i64 first) ∧ wk.cell? ⟨g8, 1, none⟩ = some (.slice Av r.length cv) :=
 ⟨(blk_cell h.box 0).trans rfl, (blk_cell h.box 1).trans rfl, (blk_cell h.box 2).trans rfl, (blk_cell h.box 3).trans rfl, (blk_cell h.box 4).trans rfl, (blk_cell h.ref 0).trans rfl, (blk_cell h.ref 1).trans rfl⟩
theorem FK.drew (h : FK w0 g8 p q cc cv Av first fr m W ta tb r L wk) : FK w0 g8 p q cc cv Av first fr m W ta tb r L wk.drew := h.below (below_drew1 (Below.refl _ _))
theorem FK.put (h : FK w0 g8 p q cc cv Av first fr m W ta tb r L wk) (hp : w0.heap.size < p) (hq : w0.heap.size < q) (h8 : w0.heap.size < g8) (hA : ∀ w1 : World, (∀ k, k ≠ w0.heap.size → w1.heap[k]? = wk.heap[k]?) → Kd.C k98 w1 Av r.length r) (m1 : Int) : FK w0 g8 p q cc cv Av first fr m1 W ta tb r L (wk.setCell ⟨w0.heap.size, 1, none⟩ (.int .i64 m1)) := by
 have o1 : ∀ k, k ≠ w0.heap.size → (wk.setCell ⟨w0.heap.size, 1, none⟩ (.int .i64 m1)).heap[k]? = wk.heap[k]? := fun k hk => Below.heap_setCell _ _ _ _ hk
 refine ⟨⟨(o1 p (by omega)).trans h.st.ptr, ?_, h.st.ne, h.st.cap⟩, blk_put (cs := #[.int .i64 fr, .int .i64 m, .int .i64 W, .int .i64 ta, .int .i64 tb]) h.box 1 _ rfl, (o1 g8 (by omega)).trans h.ref, hA _ o1, h.cap, ?_⟩
 ·obtain ⟨sp, e1, e2⟩ := h.st.row
  exact ⟨sp, (o1 q (by omega)).trans e1, e2⟩
 ·exact ⟨h.bel.os, h.bel.tape, h.bel.output, by simp [World.setCell]; exact h.bel.size, fun k hk => (o1 k (by omega)).trans (h.bel.block k hk)⟩
end Go.Proofs.Ytlddccmgamlccaa.Us
set_option linter.unusedVariables false
set_option linter.unusedSimpArgs false
namespace Go.Proofs.Ytlddccmgamlccaa.Us
open Go Go.Proofs Go.RowKit Go.Lib Go.Proofs.YtlddccmgamlccaaW.PrintWords Go.Proofs.YtlddccmgamlccaaW.PrintLast Go.Proofs.YtlddccmgamlccaaW.PrintMore
theorem cut20 {w wr w' : World} {g8 p q cc cv : Nat} {Av : Option Addr} {first fr m W ta tb x y : Int} {r : List PFitRoom.S98} {L : List (Int × Int)} {g i : Nat} (h : FK w g8 p q cc cv Av first fr m W ta tb r L wr) (hz : wr.cell? ⟨g, i * 2, none⟩ = some (.int .i64 x) ∧ wr.cell? ⟨g, i * 2 + 1, none⟩ = some (.int .i64 y)) (hb : Below wr.heap.size wr w') :
  w'.cell? ⟨w.heap.size, 3, none⟩ = some (.int .i64 ta) ∧ w'.cell? ⟨w.heap.size, 4, none⟩ = some (.int .i64 tb) ∧ w'.cell? ⟨g, i * 2, none⟩ = some (.int .i64 x) ∧ w'.cell? ⟨g, i * 2 + 1, none⟩ = some (.int .i64 y) :=
 ⟨(h.below hb).cells.2.2.2.1, (h.below hb).cells.2.2.2.2.1, below_cell1 hb hz.1, below_cell1 hb hz.2⟩
def findsR.T2 : Bool × List (List Nat × List Nat) := (true, [([], []), ([0], [0]), ([], []), ([2], [2]), ([1, 0, 1], [1]), ([3, 4, 0, 1, 2, 3, 4], [3])])
def findsR.B2 : List Nat := [0, 1, 0, 4, 3, 31]
theorem findsR.tab2 : rtab .any (opsOf Try.f5 2) = findsR.T2 := by kernel_rfl
theorem findsR.bits2 : waitsOk findsR.T2.2 findsR.B2 = true := by kernel_rfl
def findsR.T14 : Bool × List (List Nat × List Nat) := (true, [([], []), ([], []), ([0, 1], [0, 1]), ([2], [2]), ([3], [3]), ([], []), ([], []), ([5, 6], [5, 6]), ([7], [7]), ([4, 8], [4, 8])])
def findsR.B14 : List Nat := [0, 0, 3, 7, 15, 0, 0, 96, 224, 511]
theorem findsR.tab14 : rtab .any (opsOf Try.f5 14) = findsR.T14 := by kernel_rfl
theorem findsR.bits14 : waitsOk findsR.T14.2 findsR.B14 = true := by kernel_rfl
def findsR.T20 : Bool × List (List Nat × List Nat) := (true, [([], []), ([], []), ([0, 1], [0, 1]), ([2], [2]), ([], []), ([4], [4]), ([5], [5]), ([3, 6, 6], [3, 6]), ([], []), ([8, 7, 7, 0, 1, 2, 3, 4, 5, 6, 7, 8], [7, 8])])
def findsR.B20 : List Nat := [0, 0, 3, 7, 0, 16, 48, 127, 0, 511]
theorem findsR.tab20 : rtab .any (opsOf Try.f5 20) = findsR.T20 := by kernel_rfl
theorem findsR.bits20 : waitsOk findsR.T20.2 findsR.B20 = true := by kernel_rfl
def findsR.T24 : Bool × List (List Nat × List Nat) := (true, [([], []), ([], []), ([1], [1]), ([], []), ([3], [3]), ([], []), ([5], [5]), ([0, 2, 4, 6], [0, 2, 4, 6]), ([], []), ([], []), ([], []), ([], []), ([11], [11]), ([8, 9, 10, 12, 7], [8, 9, 10, 12]), ([7, 13], [7, 13]), ([14, 13], [14]), ([15], [15]), ([15], [15]), ([16, 17, 15], [15, 16, 17]), ([15, 18], [15, 18]), ([19, 15], [19]), ([20], [20]), ([20], [20]), ([21, 22, 20], [20, 21, 22]), ([20, 23], [20, 23]), ([24, 20], [24]), ([25], [25]), ([25], [25]), ([27, 25], [25, 27]), ([25], [25]), ([29, 25], [25, 29]), ([26, 28, 30, 25, 25], [25, 26, 28, 30]), ([25], [25]), ([25], [25]), ([33, 31, 25], [25, 33]), ([25], [25]), ([32, 34, 35, 34, 25], [25, 32, 34, 35]), ([31, 36, 25], [25, 31, 36]), ([25, 37], [25, 37]), ([38, 36], [38]), ([39, 39], [39]), ([39, 40], [39, 40]), ([41, 40, 0, 1, 2, 3, 4, 5, 6, 7, 8, 9, 10, 11, 12, 13, 14, 15, 16, 17, 18, 19, 20, 21, 22, 23, 24, 25, 26, 27, 28, 29, 30, 31, 32, 33, 34, 35, 36, 37, 38, 39, 40, 41], [41])])
def findsR.B24 : List Nat := [0, 0, 2, 0, 8, 0, 32, 127, 0, 0, 0, 0, 2048, 8191, 16383, 32767, 65535, 65535, 262143, 524287, 1048575, 2097151, 2097151, 8388607, 16777215, 33554431, 67108863, 67108863, 201326591, 67108863, 603979775, 2147483647, 67108863, 67108863, 12884901887, 67108863, 68719476735, 137438953471, 274877906943, 549755813887, 1099511627775, 2199023255551, 4398046511103]
theorem findsR.tab24 : rtab .any (opsOf Try.f5 24) = findsR.T24 := by kernel_rfl
theorem findsR.bits24 : waitsOk findsR.T24.2 findsR.B24 = true := by kernel_rfl
set_option maxRecDepth 100000 in
set_option maxHeartbeats 64000000 in
theorem fitFinds_calls (first : Int) (A : Option Addr) (c : Nat) (xs : List ActS) (fr many W ta tb : Int) (w : World) (hr : Kd.C kAct w A xs.length xs) (hc : xs.length ≤ c) :
  Calls Try.prog 5 #[.int .i64 first, .slice A xs.length c, .agg #[.int .i64 fr, .int .i64 many, .int .i64 W, .int .i64 ta, .int .i64 tb]] w fun e w' => e = .returned (.bool true) ∧ Below w.heap.size w w' := by
 have hbx := (Below.refl w.heap.size w).alloc (Nat.le_refl _) (.cells #[.int .i64 fr, .int .i64 many, .int .i64 W, .int .i64 ta, .int .i64 tb] 27)
 have n0 := blk_new w (.cells #[.int .i64 fr, .int .i64 many, .int .i64 W, .int .i64 ta, .int .i64 tb] 27)
 have HB0 := Aside0.mk hbx
 have HA0 := Aside0.mk n0
 have HAX := Aside0.mk (Kd.C_below hr hbx)
 obtain ⟨hL, hlen⟩ := play_lev first (xs.take 10)
 have hxl : (xs.take 10).length ≤ 10 := by rw [List.length_take]; omega
 have hs := play_same first _ (xs.take 10) rfl
 have hrl := playR_len first (xs.take 10)
 obtain ⟨L, hLe⟩ : ∃ L, playL first (xs.take 10) = L := ⟨_, rfl⟩
 obtain ⟨r, hRe⟩ : ∃ r, playR first (xs.take 10) = r := ⟨_, rfl⟩
 rw [hLe] at hL hlen hs
 rw [hRe] at hs hrl
 have HLE := Aside0.mk hLe
 have HRE := Aside0.mk hRe
 have HS := Aside0.mk hs
 have HLEV := Aside0.mk hL
 have hr30 : r.length < 30 := by omega
 have hl200 : L.length ≤ 200 := by omega
 clear hs hLe hRe hr hbx n0 hL hrl hlen hxl
 go_enter Try.func5, Try.ntmps5
 go_wp2_with (go_at_call 7; refine (play_calls first A c 10 xs _ HAX.out hc (by omega)).mono ?_; rintro ev w1 ⟨p, q, cc, v, rfl, S1, R1, hp, hq, hb1⟩; rw [HLE.out] at S1; rw [HRE.out] at R1; obtain ⟨Av, cv, rfl⟩ := Kd.R_slice R1)
 obtain ⟨hr0, hcap, hrow⟩ := Kd.R_reads' R1
 clear hr0
 rw [size_alloc] at hp hq
 have h8 := (Below.refl w1.heap.size w1).alloc (Nat.le_refl _) (.cells #[.int .i64 first, .slice Av r.length cv] 31 (0, 0))
 have hlt8 : w.heap.size < w1.heap.size := by have := hb1.size; rw [size_alloc] at this; omega
 have hK1 : FK w w1.heap.size p q cc cv Av first fr many W ta tb r L (w1.alloc (.cells #[.int .i64 first, .slice Av r.length cv] 31 (0, 0))) :=
  ⟨S1.below h8, blk_below HA0.out (hb1.trans (h8.mono hb1.size)), blk_new w1 _, Kd.C_below hrow h8, hcap, below_step HB0.out (hb1.trans (h8.mono hb1.size))⟩
 have hRow8 := Kd.R_below R1 h8
 obtain ⟨g8, hg8⟩ : ∃ g8, w1.heap.size = g8 := ⟨_, rfl⟩
 rw [hg8] at hK1 hlt8
 rw [hg8]
 obtain ⟨W1, hW1⟩ : ∃ W1, w1.alloc (.cells #[.int .i64 first, .slice Av r.length cv] 31 (0, 0)) = W1 := ⟨_, rfl⟩
 rw [hW1] at hK1 hRow8
 rw [hW1]
 have K1 := Aside0.mk hK1.drew
 have HR8 := Aside0.mk (Kd.R_below hRow8 (below_drew1 (Below.refl _ _)))
 clear hK1 hRow8 hW1 hg8 h8 hrow hcap S1 R1 hb1 HAX HA0 HB0
 refine start_ (n := 6) (S := fun w' => w'.cell? ⟨w.heap.size, 0, none⟩ = some (.int .i64 fr) ∧ w'.cell? ⟨w.heap.size, 1, none⟩ = some (.int .i64 many) ∧ w'.cell? ⟨w.heap.size, 2, none⟩ = some (.int .i64 W) ∧ w'.cell? ⟨w.heap.size, 3, none⟩ = some (.int .i64 ta) ∧ w'.cell? ⟨w.heap.size, 4, none⟩ = some (.int .i64 tb) ∧ w'.cell? ⟨g8, 0, none⟩ = some (.int .i64 first) ∧ w'.cell? ⟨g8, 1, none⟩ = some (.slice Av r.length cv)) (ds := []) #[false, false, false, false, false, false] (by kernel_rfl) rfl rfl (K1.out.cells) (fun hHeld => ?_); refine with_tabW findsR.tab2 findsR.bits2 (fun HT_ HW_ => ?_)
 refine pu 0 (some 27) ?_ HT_ rfl rfl (by kernel_rfl) (fun _ _ _ h => h) (Or.inl ⟨by rfl, ?_⟩) ?_ ?_ ?_
 rotate_left
 ·intro w'; go_simp; with_reducible rfl
 rotate_left
 ·simp only [Act.put, sA, sB, sC, i64_w]; rfl
 refine pu 2 (some 29) ?_ HT_ rfl rfl (by kernel_rfl) (fun _ _ _ h => h) (Or.inl ⟨by rfl, ?_⟩) ?_ ?_ ?_
 rotate_left
 ·intro w'; go_simp; with_reducible rfl
 rotate_left
 ·simp only [Act.put, sA, sB, sC, i64_w]; rfl
 refine tk 1 (some 28) ?_ HT_ HW_ rfl rfl (by kernel_rfl) (fun _ _ _ h => h) (Or.inl ⟨by rfl, ?_⟩) hHeld ?_ ?_ ?_
 rotate_left
 ·rintro w' ⟨s0, s1, s2, s3, s4, s5, s6⟩; go_simp; with_reducible rfl
 rotate_left
 ·simp only [Act.put, sA, sB, sC, i64_w]; rfl
 refine pu 4 (some 9) ?_ HT_ rfl rfl (by kernel_rfl) (fun _ _ _ h => h) (Or.inl ⟨by rfl, ?_⟩) ?_ ?_ ?_
 rotate_left
 ·intro w'; go_simp; with_reducible rfl
 rotate_left
 ·simp only [Act.put, sA, sB, sC, i64_w]; rfl
 refine tk 3 (some 30) ?_ HT_ HW_ rfl rfl (by kernel_rfl) (fun _ _ _ h => h) (Or.inl ⟨by rfl, ?_⟩) hHeld ?_ ?_ ?_
 rotate_left
 ·rintro w' ⟨s0, s1, s2, s3, s4, s5, s6⟩; go_simp; with_reducible rfl
 rotate_left
 ·simp only [Act.put, sA, sB, sC, i64_w]; rfl
 refine pu 5 (some 10) ?_ HT_ rfl rfl (by kernel_rfl) (fun _ _ _ h => h) (Or.inl ⟨by rfl, ?_⟩) ?_ ?_ ?_
 rotate_left
 ·intro w'; go_simp; with_reducible rfl
 rotate_left
 ·simp only [Act.put, sA, sB, sC, i64_w]; rfl
 refine done_ (done_of HT_.out (by kernel_rfl)) ?_
 rename_i hK
 refine hK _ _ ?_
 refine wp_seq_k (fun K2 hK2 => ?_)
 go_cut [10] (fun v10 wc => ∃ m : Int, v10 = .int .i64 m ∧ Aside0 (m ≤ 1099511627776) ∧ Aside0 (FK w g8 p q cc cv Av first fr m W ta tb r L wc))
 case first =>
  have hf1 := blk_frozen K1.out.box 1
  have hput := K1.out.put (by omega) (by omega) hlt8 (fun w1 ho => (Kd.R_reads' (Kd.R_step (Kd.R_mono (Kd.R_bound HR8.out) (fun k hk => hk.2.1)) (fun k hk _ => ho k (by rw [size_alloc] at hk; omega)))).2.2) 1099511627776
  have HP := Aside0.mk hput
  clear hput
  by_cases h1 : 1099511627776 < many
  ·have e1 : decide (1099511627776 < many) = true := by simpa using h1
   clear h1
   go_wp2
   go_meet
   case rel => exact ⟨_, rfl, ⟨Int.le_refl _⟩, HP⟩
  ·have e1 : decide (1099511627776 < many) = false := by simpa using h1
   by_cases h2 : many < -1099511627776
   ·have e2 : decide (many < -1099511627776) = true := by simpa using h2
    clear h1 h2
    go_wp2
    go_meet
    case rel => exact ⟨_, rfl, ⟨Int.le_refl _⟩, HP⟩
   ·have e2 : decide (many < -1099511627776) = false := by simpa using h2
    have HM := Aside0.mk h1
    clear h1 h2
    go_wp2
    go_meet
    case rel => exact ⟨_, rfl, ⟨by have := HM.out; omega⟩, K1⟩
 case rest =>
  obtain ⟨m, rfl, HM, K5⟩ := hcut
  clear K1 HR8
  have hsp := fun w' fv hf => spans_calls fv L fr m W w' hf HLEV.out
  rw [spans_all' L HLEV.out hl200] at hsp
  have hy := fun w' hC hc => rstarts_calls first r hr30 L HLEV.out HS.out fr m W HM.out Av cv w' hC hc
  have hz := fun w' hC hc => rstarts_calls first r hr30 L HLEV.out HS.out ta m W HM.out Av cv w' hC hc
  have hla := fun w' fv hf => latest_calls fv L ta tb m W w' hf HLEV.out
  have hle := last_eq L HLEV.out ta tb m W
  have he := fun w' fv hf => earliest_calls fv L fr m W w' hf HLEV.out
  have her := fun w' hC hc => rearly_calls first r hr30 L HLEV.out HS.out fr m W HM.out Av cv w' hC hc
  have hwi := fun w' hS => widest_calls p q cc L fr m w' hS HLEV.out
  have hle2 := fun w' hC hc => rleast_calls first r hr30 L HLEV.out HS.out fr m HM.out Av cv w' hC hc
  obtain ⟨S, hS⟩ : ∃ S, startsR L fr m W = S := ⟨_, rfl⟩
  rw [hS] at hsp hy
  obtain ⟨Z, hZ⟩ : ∃ Z, startsR L ta m W = Z := ⟨_, rfl⟩
  rw [hZ] at hz hle
  obtain ⟨⟨lv, ok⟩, hlo⟩ : ∃ lo, latestL L ta tb m W = lo := ⟨_, rfl⟩
  rw [hlo] at hla hle
  obtain ⟨ea, hea⟩ : ∃ ea, earlyL L fr m W = ea := ⟨_, rfl⟩
  rw [hea] at he her
  obtain ⟨wd, hwd⟩ : ∃ wd, widestL L fr m = wd := ⟨_, rfl⟩
  rw [hwd] at hwi hle2
  have hSl : S.length ≤ 200 := by rw [← hS]; exact Nat.le_trans (starts_len' L HLEV.out fr m W) hl200
  have hZl : Z.length ≤ 200 := by rw [← hZ]; exact Nat.le_trans (starts_len' L HLEV.out ta m W) hl200
  have hZc : ∀ x ∈ Z, x.1 < x.2 ∧ 0 ≤ x.1 ∧ x.2 ≤ 1099511627776 := by rw [← hZ]; exact (starts_fine L ta m W).2
  have HZR := Aside0.mk hZc
  have HX := Aside0.mk hsp
  have HY := Aside0.mk hy
  have HZ := Aside0.mk hz
  have HLa := Aside0.mk hla
  have HLast := Aside0.mk hle
  have HE := Aside0.mk he
  have HER := Aside0.mk her
  have HWI := Aside0.mk hwi
  have HLE2 := Aside0.mk hle2
  clear hsp hy hz hla hle he her hwi hle2 hS hZ hlo hea hwd hZc
  obtain ⟨x0, x1, x2, x3, x4, x5, x6⟩ := K5.out.cells
  have hG := hK2
  clear hG
  refine hK2 _ _ ?_
  go_wp2_with (first
   | (go_at_call 18; refine (HX.out _ _ (FreeIs.made K5.out.st)).mono ?_; rintro ev w6 ⟨v0, rfl, R6, hb6⟩; obtain ⟨Ax, cx, hv6⟩ := Kd.R_slice R6; subst hv6; have HXa := Aside0.mk (rrow_sp R6); clear R6; rw [List.length_map]; have K6 := Aside0.mk (K5.out.below hb6); clear hb6; clear x0 x1 x2 x3 x4 x5 x6; obtain ⟨x0, x1, x2, x3, x4, x5, x6⟩ := K6.out.cells)
   | (go_at_call 19; refine (HY.out _ K6.out.row K6.out.cap).mono ?_; rintro ev w7 ⟨v1, rfl, R7, hb7⟩; obtain ⟨Ay, cy, hv7⟩ := Kd.R_slice R7; subst hv7; have HYa := Aside0.mk (rrow_ref R7); clear R7; rw [List.length_map]; have HXb := Aside0.mk (HXa.out.below hb7); have K7 := Aside0.mk (K6.out.below hb7); clear hb7; clear x0 x1 x2 x3 x4 x5 x6))
  go_loopw [15] (fun v15 wr => ∃ i : Nat, v15 = .int .i64 (i : Int) ∧ i ≤ S.length ∧ RRow wr Ax S ∧ RRow wr Ay S ∧ FK w g8 p q cc cv Av first fr m W ta tb r L wr)
   (fun v15 wr => S.length - natV v15)
  case atStart => exact ⟨0, rfl, Nat.zero_le _, HXb.out, HYa.out, K7.out⟩
  case round =>
   obtain ⟨i, rfl, hi, hX, hY, hKr⟩ := hrel
   have HXr := Aside0.mk hX
   have HYr := Aside0.mk hY
   have Kr := Aside0.mk hKr
   clear hX hY hKr
   by_cases hlt : i < S.length
   ·have e1 : decide ((i : Int) < (S.length : Int)) = true := by simp; omega
    have e1' : decide (i < S.length) = true := by simp; omega
    obtain ⟨gx, rfl, a0, a1⟩ := HXr.out i hlt
    obtain ⟨gy, rfl, a2, a3⟩ := HYr.out i hlt
    obtain ⟨⟨x, y⟩, hxy⟩ : ∃ s, S[i] = s := ⟨_, rfl⟩
    rw [hxy] at a0 a1 a2 a3
    dsimp only at a0 a1 a2 a3
    have hw1 : IntKind.i64.wrap ((i : Int) + 1) = (i : Int) + 1 := by rw [IntKind.wrap_i64]; have := hl200; omega
    have q1 := eq_true (show (0 : Int) ≤ (i : Int) by omega)
    have q2 := eq_true (show (i : Int) < (S.length : Int) by omega)
    have hBd : Below wr.heap.size wr wr.drew := below_drew1 (Below.refl _ _)
    clear hxy
    go_wp2
    have y0 : wr.drew.cell? ⟨gx, i * 2, none⟩ = some (.int .i64 x) := a0
    have y1 : wr.drew.cell? ⟨gx, i * 2 + 1, none⟩ = some (.int .i64 y) := a1
    have y2 : wr.drew.cell? ⟨gy, i * 2, none⟩ = some (.int .i64 x) := a2
    have y3 : wr.drew.cell? ⟨gy, i * 2 + 1, none⟩ = some (.int .i64 y) := a3
    refine start_ (n := 10) (S := fun w' => w'.cell? ⟨gx, i * 2, none⟩ = some (.int .i64 x) ∧ w'.cell? ⟨gx, i * 2 + 1, none⟩ = some (.int .i64 y) ∧ w'.cell? ⟨gy, i * 2, none⟩ = some (.int .i64 x) ∧ w'.cell? ⟨gy, i * 2 + 1, none⟩ = some (.int .i64 y)) (ds := []) #[false, false, false, false, false, false, false, false, false, false] (by kernel_rfl) rfl rfl ⟨y0, y1, y2, y3⟩ (fun hHeld => ?_); refine with_tabW findsR.tab14 findsR.bits14 (fun HT_ HW_ => ?_)
    refine pu 0 (some 63) ?_ HT_ rfl rfl (by kernel_rfl) (fun _ _ _ h => h) (Or.inl ⟨by rfl, ?_⟩) ?_ ?_ ?_
    rotate_left
    ·intro w'; go_simp; with_reducible rfl
    rotate_left
    ·simp only [Act.put, sA, sB, sC, i64_w]; rfl
    refine pu 1 (some 64) ?_ HT_ rfl rfl (by kernel_rfl) (fun _ _ _ h => h) (Or.inl ⟨by rfl, ?_⟩) ?_ ?_ ?_
    rotate_left
    ·intro w'; go_simp; with_reducible rfl
    rotate_left
    ·simp only [Act.put, sA, sB, sC, i64_w]; rfl
    refine pu 2 (some 65) ?_ HT_ rfl rfl (by kernel_rfl) (fun _ _ _ h => h) (Or.inl ⟨by rfl, ?_⟩) ?_ ?_ ?_
    rotate_left
    ·intro w'; go_simp; with_reducible rfl
    rotate_left
    ·simp only [Act.put, sA, sB, sC, i64_w]; rfl
    refine pu 5 (some 68) ?_ HT_ rfl rfl (by kernel_rfl) (fun _ _ _ h => h) (Or.inl ⟨by rfl, ?_⟩) ?_ ?_ ?_
    rotate_left
    ·intro w'; go_simp; with_reducible rfl
    rotate_left
    ·simp only [Act.put, sA, sB, sC, i64_w]; rfl
    refine pu 6 (some 69) ?_ HT_ rfl rfl (by kernel_rfl) (fun _ _ _ h => h) (Or.inl ⟨by rfl, ?_⟩) ?_ ?_ ?_
    rotate_left
    ·intro w'; go_simp; with_reducible rfl
    rotate_left
    ·simp only [Act.put, sA, sB, sC, i64_w]; rfl
    refine pu 7 (some 70) ?_ HT_ rfl rfl (by kernel_rfl) (fun _ _ _ h => h) (Or.inl ⟨by rfl, ?_⟩) ?_ ?_ ?_
    rotate_left
    ·intro w'; go_simp; with_reducible rfl
    rotate_left
    ·simp only [Act.put, sA, sB, sC, i64_w]; rfl
    refine tk 3 (some 66) ?_ HT_ HW_ rfl rfl (by kernel_rfl) (fun _ _ _ h => h) (Or.inl ⟨by rfl, ?_⟩) hHeld ?_ ?_ ?_
    rotate_left
    ·rintro w' ⟨s0, s1, s2, s3⟩; go_simp; with_reducible rfl
    rotate_left
    ·simp only [Act.put, sA, sB, sC, i64_w]; rfl
    refine tk 8 (some 71) ?_ HT_ HW_ rfl rfl (by kernel_rfl) (fun _ _ _ h => h) (Or.inl ⟨by rfl, ?_⟩) hHeld ?_ ?_ ?_
    rotate_left
    ·rintro w' ⟨s0, s1, s2, s3⟩; go_simp; with_reducible rfl
    rotate_left
    ·simp only [Act.put, sA, sB, sC, i64_w]; rfl
    refine on 4 (some 67) HT_ rfl rfl (by kernel_rfl) (by decide) (fun K hK => ?_)
    refine goes_ Try.func20 (by kernel_rfl) rfl #[.agg #[.int .i64 x, .int .i64 y]] (by rfl) rfl rfl (by (try simp only [List.map_toArray, List.map_cons, List.map_nil]); first | done | rfl | (simp only [List.length_drop, List.length_take]; rfl)) ?_
    with_reducible refine (berthinglaw01_Own.calls x y x y _ rfl).mono ?_
    rintro ev wb ⟨rfl, hbb⟩
    have hBb := below_step hBd hbb
    have z0 := below_cell1 hbb y0
    have z1 := below_cell1 hbb y1
    have z2 := below_cell1 hbb y2
    have z3 := below_cell1 hbb y3
    clear hbb
    refine ⟨_, rfl, ?_⟩
    refine hK.out _ _ ⟨z0, z1, z2, z3⟩ (fun hHeld => ?_)
    clear hK K
    refine norm_ (a' := ?_) ?_ ?_
    rotate_left
    ·show Act.put _ (some 67) _ = _; simp only [Act.put, sA, sB, sC, i64_w]; rfl
    refine pu 9 (some 72) ?_ HT_ rfl rfl (by kernel_rfl) (fun _ _ _ h => h) (Or.inl ⟨by rfl, ?_⟩) ?_ ?_ ?_
    rotate_left
    ·intro w'; go_simp; with_reducible rfl
    rotate_left
    ·simp only [Act.put, sA, sB, sC, i64_w]; rfl
    refine done_ (done_of HT_.out (by kernel_rfl)) ?_
    go_wp2
    go_roundw
    case rel => exact ⟨i + 1, by go_num, by omega, HXr.out.below hBb, HYr.out.below hBb, Kr.out.below hBb⟩
    case measure => simp [natV]; omega
   ·have e1 : decide ((i : Int) < (S.length : Int)) = false := by simp; omega
    have e1' : decide (i < S.length) = false := by simp; omega
    obtain ⟨x0, x1, x2, x3, x4, x5, x6⟩ := Kr.out.cells
    clear hlt HXa HXb HYa K5 K6 K7
    go_wp2_with (go_at_call 19; refine (HZ.out _ Kr.out.row Kr.out.cap).mono ?_; rintro ev w8 ⟨v2, rfl, R8, hb8⟩; obtain ⟨Az, cz, hv8⟩ := Kd.R_slice R8; subst hv8; have HZa := Aside0.mk (rrow_ref R8); clear R8; rw [List.length_map]; have K8 := Aside0.mk (Kr.out.below hb8); clear hb8; clear x0 x1 x2 x3 x4 x5 x6)
    go_loopw [13, 14, 17] (fun v13 v14 v17 wr => ∃ i : Nat, v17 = .int .i64 (i : Int) ∧ v13 = .int .i64 ((Z.take i).foldl (lastF ta tb) (0, false)).1 ∧ v14 = .bool ((Z.take i).foldl (lastF ta tb) (0, false)).2 ∧ i ≤ Z.length ∧ RRow wr Az Z ∧ FK w g8 p q cc cv Av first fr m W ta tb r L wr)
     (fun v13 v14 v17 wr => Z.length - natV v17)
    case atStart => exact ⟨0, rfl, rfl, rfl, Nat.zero_le _, HZa.out, K8.out⟩
    case round =>
     clear Kr HXr HYr
     rename_i wo
     obtain ⟨i, rfl, rfl, rfl, hi, hZz, hKr⟩ := hrel
     have HZr := Aside0.mk hZz
     have Kr := Aside0.mk hKr
     clear hZz hKr
     obtain ⟨⟨la, is⟩, hacc⟩ : ∃ s, (Z.take i).foldl (lastF ta tb) (0, false) = s := ⟨_, rfl⟩
     rw [hacc]
     dsimp only
     by_cases hlt : i < Z.length
     ·have htk : (Z.take (i + 1)).foldl (lastF ta tb) (0, false) = lastF ta tb (la, is) Z[i] := by rw [List.take_succ_eq_append_getElem hlt, List.foldl_append, hacc]; rfl
      have hzr := HZR.out _ (List.getElem_mem hlt)
      obtain ⟨gz, hAz, a0, a1⟩ := HZr.out i hlt
      subst hAz
      obtain ⟨⟨x, y⟩, hxy⟩ : ∃ s, Z[i] = s := ⟨_, rfl⟩
      rw [hxy] at a0 a1 htk hzr
      dsimp only at a0 a1 hzr
      have hcut := rcut_calls x y ta tb
      have hcz := cutP_zero x y ta tb
      have hcr := cutP_range x y ta tb
      obtain ⟨⟨C1, C2⟩, hCC⟩ : ∃ s, cutP x y ta tb = s := ⟨_, rfl⟩
      rw [hCC] at hcut hcz hcr
      dsimp only at hcut hcz hcr
      replace htk := htk.trans (show lastF ta tb (la, is) (x, y) = if ((C1, C2) : Int × Int) = (0, 0) then (la, is) else (C2 - 1, true) by unfold lastF; dsimp only; rw [hCC])
      have HTK := Aside0.mk htk
      have HCut := Aside0.mk hcut
      have Hzz := Aside0.mk (And.intro a0 a1)
      have HCZ := Aside0.mk hcz
      have HCR := Aside0.mk hcr
      have hw1 : IntKind.i64.wrap ((i : Int) + 1) = (i : Int) + 1 := by rw [IntKind.wrap_i64]; have := hl200; omega
      have e1 : decide ((i : Int) < (Z.length : Int)) = true := by simp; omega
      have e1' : decide (i < Z.length) = true := by simp; omega
      have q1 := eq_true (show (0 : Int) ≤ (i : Int) by omega)
      have q2 := eq_true (show (i : Int) < (Z.length : Int) by omega)
      have HBza := Aside0.mk (show Below wr.heap.size wr wr.drew from below_drew1 (Below.refl _ _))
      clear htk hcut hcz hcr hCC hxy hacc a0 a1 hzr
      go_wp2
      refine start_ (n := 10) (S := fun w' => w'.cell? ⟨w.heap.size, 3, none⟩ = some (.int .i64 ta) ∧ w'.cell? ⟨w.heap.size, 4, none⟩ = some (.int .i64 tb) ∧ w'.cell? ⟨gz, i * 2, none⟩ = some (.int .i64 x) ∧ w'.cell? ⟨gz, i * 2 + 1, none⟩ = some (.int .i64 y)) (ds := [9]) #[false, false, false, false, false, false, false, false, false, false] (by kernel_rfl) rfl rfl ((cut20 Kr.out Hzz.out HBza.out)) (fun hHeld => ?_); refine with_tabW findsR.tab20 findsR.bits20 (fun HT_ HW_ => ?_)
      refine pu 0 (some 87) ?_ HT_ rfl rfl (by kernel_rfl) (fun _ _ _ h => h) (Or.inl ⟨by rfl, ?_⟩) ?_ ?_ ?_
      rotate_left
      ·intro w'; go_simp; with_reducible rfl
      rotate_left
      ·simp only [Act.put, sA, sB, sC, i64_w]; rfl
      refine pu 1 (some 88) ?_ HT_ rfl rfl (by kernel_rfl) (fun _ _ _ h => h) (Or.inl ⟨by rfl, ?_⟩) ?_ ?_ ?_
      rotate_left
      ·intro w'; go_simp; with_reducible rfl
      rotate_left
      ·simp only [Act.put, sA, sB, sC, i64_w]; rfl
      refine pu 2 (some 89) ?_ HT_ rfl rfl (by kernel_rfl) (fun _ _ _ h => h) (Or.inl ⟨by rfl, ?_⟩) ?_ ?_ ?_
      rotate_left
      ·intro w'; go_simp; with_reducible rfl
      rotate_left
      ·simp only [Act.put, sA, sB, sC, i64_w]; rfl
      refine pu 4 (some 91) ?_ HT_ rfl rfl (by kernel_rfl) (fun _ _ _ h => h) (Or.inl ⟨by rfl, ?_⟩) ?_ ?_ ?_
      rotate_left
      ·intro w'; go_simp; with_reducible rfl
      rotate_left
      ·simp only [Act.put, sA, sB, sC, i64_w]; rfl
      refine tk 3 (some 90) ?_ HT_ HW_ rfl rfl (by kernel_rfl) (fun _ _ _ h => h) (Or.inl ⟨by rfl, ?_⟩) hHeld ?_ ?_ ?_
      rotate_left
      ·rintro w' ⟨s0, s1, s2, s3⟩; go_simp; with_reducible rfl
      rotate_left
      ·simp only [Act.put, sA, sB, sC, i64_w]; rfl
      refine tk 5 (some 92) ?_ HT_ HW_ rfl rfl (by kernel_rfl) (fun _ _ _ h => h) (Or.inl ⟨by rfl, ?_⟩) hHeld ?_ ?_ ?_
      rotate_left
      ·rintro w' ⟨s0, s1, s2, s3⟩; go_simp; with_reducible rfl
      rotate_left
      ·simp only [Act.put, sA, sB, sC, i64_w]; rfl
      refine join_ (σ := Nat) 1 #[true, true, true, true, true, true, true, true, true, false] (fun s_ => [(93, .agg #[.int .i64 ta, .int .i64 tb]), (94, .agg #[.int .i64 C1, .int .i64 C2]), (18, .pointer (some ⟨s_, 0, none⟩))]) (fun s_ w' => Below wr.heap.size wr w' ∧ w'.heap[s_]? = some (.cells #[.int .i64 0, .int .i64 0] 55 (0, 0)) ∧ wr.heap.size ≤ s_) ?_ ?_
      rotate_left
      ·intro hCont
       refine two_ (i := 6) (j := 8) (Ni := some 93) (Nj := some 18) #[true, true, true, true, true, true, true, false, false, false] #[true, true, true, true, true, true, false, false, true, false] rfl rfl rfl rfl (two_of HT_.out (by kernel_rfl)) (by decide) (by decide) (fun K hK => ?_) (fun K hK => ?_)
       ·skip
        refine goes_ Try.func20 (by kernel_rfl) rfl #[.agg #[.int .i64 ta, .int .i64 tb]] (by rfl) rfl rfl (by (try simp only [List.map_toArray, List.map_cons, List.map_nil]); first | done | rfl | (simp only [List.length_drop, List.length_take]; rfl)) ?_
        with_reducible refine (berthinglaw01_Own.calls ta tb ta tb _ rfl).mono ?_
        rintro ev wb ⟨rfl, hb⟩
        have HBzb := Aside0.mk (below_step HBza.out hb)
        clear hb
        refine ⟨_, rfl, ?_⟩
        refine hK.out _ _ ((cut20 Kr.out Hzz.out HBzb.out)) (fun hHeld => ?_)
        clear hK K
        refine norm_ (a' := ?_) ?_ ?_
        rotate_left
        ·show Act.put _ (some 93) _ = _; simp only [Act.put, sA, sB, sC, i64_w]; rfl
        refine two_ (i := 7) (j := 8) (Ni := some 94) (Nj := some 18) #[true, true, true, true, true, true, true, true, false, false] #[true, true, true, true, true, true, true, false, true, false] rfl rfl rfl rfl (two_of HT_.out (by kernel_rfl)) (by decide) (by decide) (fun K hK => ?_) (fun K hK => ?_)
        ·skip
         refine goes_ Try.func21 (by kernel_rfl) rfl #[.agg #[.int .i64 x, .int .i64 y], .agg #[.int .i64 ta, .int .i64 tb]] (by rfl) rfl rfl (by (try simp only [List.map_toArray, List.map_cons, List.map_nil]); first | done | rfl | (simp only [List.length_drop, List.length_take]; rfl)) ?_
         with_reducible refine (HCut.out _).mono ?_
         rintro ev wc ⟨rfl, hb⟩
         have HBzc := Aside0.mk (below_step HBzb.out hb)
         clear hb
         refine ⟨_, rfl, ?_⟩
         refine hK.out _ _ ((cut20 Kr.out Hzz.out HBzc.out)) (fun hHeld => ?_)
         clear hK K
         refine norm_ (a' := ?_) ?_ ?_
         rotate_left
         ·show Act.put _ (some 94) _ = _; simp only [Act.put, sA, sB, sC, i64_w]; rfl
         refine on 8 (some 18) HT_ rfl rfl (by kernel_rfl) (by decide) (fun K hK => ?_)
         refine box_step (by rfl) (N := 18) rfl (cs := #[.int .i64 0, .int .i64 0]) (t := 55) ?hr ?_; (case hr => first | (go_simp; done) | (go_simp; rfl))
         intro gb hg wd hbox hb
         have HBzd := Aside0.mk (below_step HBzc.out hb)
         have HGd := Aside0.mk hbox
         have HGE := Aside0.mk (show wr.heap.size ≤ gb by rw [hg]; exact HBzc.out.size)
         clear hbox hb hg
         refine hK.out _ _ ((cut20 Kr.out Hzz.out HBzd.out)) (fun hHeld => ?_)
         clear hK K
         refine norm_ (a' := ?_) ?_ ?_
         rotate_left
         ·show Act.put _ (some 18) _ = _; simp only [Act.put, sA, sB, sC, i64_w]; rfl
         exact norm_ (by simp only [putAll, Act.put, List.setIfInBounds_toArray, List.set_cons_zero, List.set_cons_succ]) (hCont gb _ ⟨HBzd.out, HGd.out, HGE.out⟩)
        ·skip
         refine box_step (by rfl) (N := 18) rfl (cs := #[.int .i64 0, .int .i64 0]) (t := 55) ?hr ?_; (case hr => first | (go_simp; done) | (go_simp; rfl))
         intro gb hg wc hbox hb
         have HBzc := Aside0.mk (below_step HBzb.out hb)
         have HGc := Aside0.mk hbox
         have HGE := Aside0.mk (show wr.heap.size ≤ gb by rw [hg]; exact HBzb.out.size)
         clear hbox hb hg
         refine hK.out _ _ ((cut20 Kr.out Hzz.out HBzc.out)) (fun hHeld => ?_)
         clear hK K
         refine norm_ (a' := ?_) ?_ ?_
         rotate_left
         ·show Act.put _ (some 18) _ = _; simp only [Act.put, sA, sB, sC, i64_w]; rfl
         refine on 7 (some 94) HT_ rfl rfl (by kernel_rfl) (by decide) (fun K hK => ?_)
         refine goes_ Try.func21 (by kernel_rfl) rfl #[.agg #[.int .i64 x, .int .i64 y], .agg #[.int .i64 ta, .int .i64 tb]] (by rfl) rfl rfl (by (try simp only [List.map_toArray, List.map_cons, List.map_nil]); first | done | rfl | (simp only [List.length_drop, List.length_take]; rfl)) ?_
         with_reducible refine (HCut.out _).mono ?_
         rintro ev wd ⟨rfl, hb⟩
         have HBzd := Aside0.mk (below_step HBzc.out hb)
         have HGd := Aside0.mk (blk_below HGc.out hb)
         clear hb
         refine ⟨_, rfl, ?_⟩
         refine hK.out _ _ ((cut20 Kr.out Hzz.out HBzd.out)) (fun hHeld => ?_)
         clear hK K
         refine norm_ (a' := ?_) ?_ ?_
         rotate_left
         ·show Act.put _ (some 94) _ = _; simp only [Act.put, sA, sB, sC, i64_w]; rfl
         exact norm_ (by simp only [putAll, Act.put, List.setIfInBounds_toArray, List.set_cons_zero, List.set_cons_succ]) (hCont gb _ ⟨HBzd.out, HGd.out, HGE.out⟩)
       ·skip
        refine box_step (by rfl) (N := 18) rfl (cs := #[.int .i64 0, .int .i64 0]) (t := 55) ?hr ?_; (case hr => first | (go_simp; done) | (go_simp; rfl))
        intro gb hg wb hbox hb
        have HBzb := Aside0.mk (below_step HBza.out hb)
        have HGb := Aside0.mk hbox
        have HGE := Aside0.mk (show wr.heap.size ≤ gb by rw [hg]; exact HBza.out.size)
        clear hbox hb hg
        refine hK.out _ _ ((cut20 Kr.out Hzz.out HBzb.out)) (fun hHeld => ?_)
        clear hK K
        refine norm_ (a' := ?_) ?_ ?_
        rotate_left
        ·show Act.put _ (some 18) _ = _; simp only [Act.put, sA, sB, sC, i64_w]; rfl
        refine on 6 (some 93) HT_ rfl rfl (by kernel_rfl) (by decide) (fun K hK => ?_)
        refine goes_ Try.func20 (by kernel_rfl) rfl #[.agg #[.int .i64 ta, .int .i64 tb]] (by rfl) rfl rfl (by (try simp only [List.map_toArray, List.map_cons, List.map_nil]); first | done | rfl | (simp only [List.length_drop, List.length_take]; rfl)) ?_
        with_reducible refine (berthinglaw01_Own.calls ta tb ta tb _ rfl).mono ?_
        rintro ev wc ⟨rfl, hb⟩
        have HBzc := Aside0.mk (below_step HBzb.out hb)
        have HGc := Aside0.mk (blk_below HGb.out hb)
        clear hb
        refine ⟨_, rfl, ?_⟩
        refine hK.out _ _ ((cut20 Kr.out Hzz.out HBzc.out)) (fun hHeld => ?_)
        clear hK K
        refine norm_ (a' := ?_) ?_ ?_
        rotate_left
        ·show Act.put _ (some 93) _ = _; simp only [Act.put, sA, sB, sC, i64_w]; rfl
        refine on 7 (some 94) HT_ rfl rfl (by kernel_rfl) (by decide) (fun K hK => ?_)
        refine goes_ Try.func21 (by kernel_rfl) rfl #[.agg #[.int .i64 x, .int .i64 y], .agg #[.int .i64 ta, .int .i64 tb]] (by rfl) rfl rfl (by (try simp only [List.map_toArray, List.map_cons, List.map_nil]); first | done | rfl | (simp only [List.length_drop, List.length_take]; rfl)) ?_
        with_reducible refine (HCut.out _).mono ?_
        rintro ev wd ⟨rfl, hb⟩
        have HBzd := Aside0.mk (below_step HBzc.out hb)
        have HGd := Aside0.mk (blk_below HGc.out hb)
        clear hb
        refine ⟨_, rfl, ?_⟩
        refine hK.out _ _ ((cut20 Kr.out Hzz.out HBzd.out)) (fun hHeld => ?_)
        clear hK K
        refine norm_ (a' := ?_) ?_ ?_
        rotate_left
        ·show Act.put _ (some 94) _ = _; simp only [Act.put, sA, sB, sC, i64_w]; rfl
        exact norm_ (by simp only [putAll, Act.put, List.setIfInBounds_toArray, List.set_cons_zero, List.set_cons_succ]) (hCont gb _ ⟨HBzd.out, HGd.out, HGE.out⟩)
      rintro gb wd ⟨h0_, h1_, h2_⟩
      have HBzd := Aside0.mk h0_
      have HGd := Aside0.mk h1_
      have HGE := Aside0.mk h2_
      have hHeld := (cut20 Kr.out Hzz.out HBzd.out)
      have k0 := (blk_cell HGd.out 0).trans rfl
      have k1 := (blk_cell HGd.out 1).trans rfl
      have f0 := blk_frozen HGd.out 0
      have f1 := blk_frozen HGd.out 1
      clear h0_ h1_ h2_
      refine norm_ (a' := ?_) ?_ ?_
      rotate_left
      ·simp only [putAll, Act.put, List.setIfInBounds_toArray, List.set_cons_zero, List.set_cons_succ]
       rfl
      refine last_ (i := 9) (N := none) #[true, true, true, true, true, true, true, true, true, true] rfl rfl (one_of HT_.out (by kernel_rfl)) (by decide) (fun K hK => ?_)
      refine skip_ (w1 := ?_) (by rfl) rfl ?_ ?_
      rotate_left
      ·go_simp
       rfl
      refine hK.out _ _ ?_
      clear hK K
      refine done_ (done_of HT_.out (by kernel_rfl)) ?_
      have hBe : Below wr.heap.size wr ((wd.setCell ⟨gb, 0, none⟩ (.int .i64 C1)).setCell ⟨gb, 1, none⟩ (.int .i64 C2)) := below_set (below_set HBzd.out HGE.out) HGE.out
      have n8 := (blk_put (cs := #[.int .i64 C1, .int .i64 0]) (blk_put HGd.out 0 _ rfl) 1 _ rfl : ((wd.setCell ⟨gb, 0, none⟩ (.int .i64 C1)).setCell ⟨gb, 1, none⟩ (.int .i64 C2)).heap[gb]? = some (.cells #[.int .i64 C1, .int .i64 C2] 55 (0, 0)))
      have HBe := Aside0.mk hBe
      clear k0 k1 f0 f1 hBe
      obtain ⟨we, hwe⟩ : ∃ we, (wd.setCell ⟨gb, 0, none⟩ (.int .i64 C1)).setCell ⟨gb, 1, none⟩ (.int .i64 C2) = we := ⟨_, rfl⟩
      rw [hwe] at HBe n8
      rw [hwe]
      have k0 := (blk_cell n8 0).trans rfl
      have k1 := (blk_cell n8 1).trans rfl
      clear hwe n8
      by_cases hne : C1 < C2
      ·have hz2 : (C2 == 0) = false := by have := HCR.out; simp; omega
       have hw2 : IntKind.i64.wrap (C2 - 1) = C2 - 1 := by have := HCR.out; rw [IntKind.wrap_i64]; omega
       have hTK : (Z.take (i + 1)).foldl (lastF ta tb) (0, false) = (C2 - 1, true) := by
        rw [HTK.out, if_neg]
        intro hh
        have := HCZ.out.1 hh
        omega
       have HTK2 := Aside0.mk hTK
       clear hTK hne
       go_wp2
       go_roundw
       case rel => exact ⟨i + 1, by go_num, by rw [HTK2.out], by rw [HTK2.out], by omega, HZr.out.below HBe.out, Kr.out.below HBe.out⟩
       case measure => simp [natV]; omega
      ·have hzz : (C1, C2) = ((0 : Int), (0 : Int)) := HCZ.out.2 (by omega)
       have hTK : (Z.take (i + 1)).foldl (lastF ta tb) (0, false) = (la, is) := by rw [HTK.out, if_pos hzz]
       have HTK2 := Aside0.mk hTK
       obtain ⟨rfl, rfl⟩ := Prod.mk.inj hzz
       clear hTK hne hzz
       go_wp2
       go_roundw
       case rel => exact ⟨i + 1, by go_num, by rw [HTK2.out], by rw [HTK2.out], by omega, HZr.out.below HBe.out, Kr.out.below HBe.out⟩
       case measure => simp [natV]; omega
     ·have e1 : decide ((i : Int) < (Z.length : Int)) = false := by simp; omega
      have e1' : decide (i < Z.length) = false := by simp; omega
      have hll : (la, is) = (lv, ok) := by rw [← hacc, List.take_of_length_le (by omega)]; exact HLast.out
      obtain ⟨rfl, rfl⟩ := Prod.mk.inj hll
      obtain ⟨x0, x1, x2, x3, x4, x5, x6⟩ := Kr.out.cells
      clear hlt hll hacc
      go_wp2_with (go_at_call 22; refine (HLa.out _ _ (FreeIs.made Kr.out.st)).mono ?_; rintro ev w9 ⟨rfl, hb9⟩; have K9 := Aside0.mk (Kr.out.below hb9); clear hb9; clear x0 x1 x2 x3 x4 x5 x6)
      have K10 := Aside0.mk K9.out.drew
      refine start_ (n := 43) (S := fun w' => w'.cell? ⟨w.heap.size, 0, none⟩ = some (.int .i64 fr) ∧ w'.cell? ⟨w.heap.size, 1, none⟩ = some (.int .i64 m) ∧ w'.cell? ⟨w.heap.size, 2, none⟩ = some (.int .i64 W) ∧ w'.cell? ⟨w.heap.size, 3, none⟩ = some (.int .i64 ta) ∧ w'.cell? ⟨w.heap.size, 4, none⟩ = some (.int .i64 tb) ∧ w'.cell? ⟨g8, 0, none⟩ = some (.int .i64 first) ∧ w'.cell? ⟨g8, 1, none⟩ = some (.slice Av r.length cv)) (ds := []) #[false, false, false, false, false, false, false, false, false, false, false, false, false, false, false, false, false, false, false, false, false, false, false, false, false, false, false, false, false, false, false, false, false, false, false, false, false, false, false, false, false, false, false] (by kernel_rfl) rfl rfl (K10.out.cells) (fun hHeld => ?_); refine with_tabW findsR.tab24 findsR.bits24 (fun HT_ HW_ => ?_)
      refine pu 0 (some 112) ?_ HT_ rfl rfl (by kernel_rfl) (fun _ _ _ h => h) (Or.inl ⟨by rfl, ?_⟩) ?_ ?_ ?_
      rotate_left
      ·intro w'; go_simp; with_reducible rfl
      rotate_left
      ·simp only [Act.put, sA, sB, sC, i64_w]; rfl
      refine pu 1 (some 113) ?_ HT_ rfl rfl (by kernel_rfl) (fun _ _ _ h => h) (Or.inl ⟨by rfl, ?_⟩) ?_ ?_ ?_
      rotate_left
      ·intro w'; go_simp; with_reducible rfl
      rotate_left
      ·simp only [Act.put, sA, sB, sC, i64_w]; rfl
      refine pu 3 (some 115) ?_ HT_ rfl rfl (by kernel_rfl) (fun _ _ _ h => h) (Or.inl ⟨by rfl, ?_⟩) ?_ ?_ ?_
      rotate_left
      ·intro w'; go_simp; with_reducible rfl
      rotate_left
      ·simp only [Act.put, sA, sB, sC, i64_w]; rfl
      refine pu 5 (some 117) ?_ HT_ rfl rfl (by kernel_rfl) (fun _ _ _ h => h) (Or.inl ⟨by rfl, ?_⟩) ?_ ?_ ?_
      rotate_left
      ·intro w'; go_simp; with_reducible rfl
      rotate_left
      ·simp only [Act.put, sA, sB, sC, i64_w]; rfl
      refine pu 9 (some 121) ?_ HT_ rfl rfl (by kernel_rfl) (fun _ _ _ h => h) (Or.inl ⟨by rfl, ?_⟩) ?_ ?_ ?_
      rotate_left
      ·intro w'; go_simp; with_reducible rfl
      rotate_left
      ·simp only [Act.put, sA, sB, sC, i64_w]; rfl
      refine pu 10 (some 122) ?_ HT_ rfl rfl (by kernel_rfl) (fun _ _ _ h => h) (Or.inl ⟨by rfl, ?_⟩) ?_ ?_ ?_
      rotate_left
      ·intro w'; go_simp; with_reducible rfl
      rotate_left
      ·simp only [Act.put, sA, sB, sC, i64_w]; rfl
      refine pu 11 (some 123) ?_ HT_ rfl rfl (by kernel_rfl) (fun _ _ _ h => h) (Or.inl ⟨by rfl, ?_⟩) ?_ ?_ ?_
      rotate_left
      ·intro w'; go_simp; with_reducible rfl
      rotate_left
      ·simp only [Act.put, sA, sB, sC, i64_w]; rfl
      refine tk 2 (some 114) ?_ HT_ HW_ rfl rfl (by kernel_rfl) (fun _ _ _ h => h) (Or.inl ⟨by rfl, ?_⟩) hHeld ?_ ?_ ?_
      rotate_left
      ·rintro w' ⟨s0, s1, s2, s3, s4, s5, s6⟩; go_simp; with_reducible rfl
      rotate_left
      ·simp only [Act.put, sA, sB, sC, i64_w]; rfl
      refine tk 4 (some 116) ?_ HT_ HW_ rfl rfl (by kernel_rfl) (fun _ _ _ h => h) (Or.inl ⟨by rfl, ?_⟩) hHeld ?_ ?_ ?_
      rotate_left
      ·rintro w' ⟨s0, s1, s2, s3, s4, s5, s6⟩; go_simp; with_reducible rfl
      rotate_left
      ·simp only [Act.put, sA, sB, sC, i64_w]; rfl
      refine tk 6 (some 118) ?_ HT_ HW_ rfl rfl (by kernel_rfl) (fun _ _ _ h => h) (Or.inl ⟨by rfl, ?_⟩) hHeld ?_ ?_ ?_
      rotate_left
      ·rintro w' ⟨s0, s1, s2, s3, s4, s5, s6⟩; go_simp; with_reducible rfl
      rotate_left
      ·simp only [Act.put, sA, sB, sC, i64_w]; rfl
      refine tk 8 (some 120) ?_ HT_ HW_ rfl rfl (by kernel_rfl) (fun _ _ _ h => h) (Or.inl ⟨by rfl, ?_⟩) hHeld ?_ ?_ ?_
      rotate_left
      ·rintro w' ⟨s0, s1, s2, s3, s4, s5, s6⟩; go_simp; with_reducible rfl
      rotate_left
      ·simp only [Act.put, sA, sB, sC, i64_w]; rfl
      refine tk 12 (some 124) ?_ HT_ HW_ rfl rfl (by kernel_rfl) (fun _ _ _ h => h) (Or.inl ⟨by rfl, ?_⟩) hHeld ?_ ?_ ?_
      rotate_left
      ·rintro w' ⟨s0, s1, s2, s3, s4, s5, s6⟩; go_simp; with_reducible rfl
      rotate_left
      ·simp only [Act.put, sA, sB, sC, i64_w]; rfl
      refine on 7 (some 119) HT_ rfl rfl (by kernel_rfl) (by decide) (fun K hK => ?_)
      refine goes_ Try.func9 (by kernel_rfl) rfl #[.pointer (some ⟨p, 0, none⟩), .int .i64 fr, .int .i64 m, .int .i64 W] (by rfl) rfl rfl (by (try simp only [List.map_toArray, List.map_cons, List.map_nil]); first | done | rfl | (simp only [List.length_drop, List.length_take]; rfl)) ?_
      with_reducible refine (HE.out _ _ (FreeIs.made K10.out.st)).mono ?_
      rintro ev w21 ⟨rfl, hb21⟩
      have K21 := Aside0.mk (K10.out.below hb21)
      clear hb21
      refine ⟨_, rfl, ?_⟩
      refine hK.out _ _ (K21.out.cells) (fun hHeld => ?_)
      clear hK K
      refine norm_ (a' := ?_) ?_ ?_
      rotate_left
      ·show Act.put _ (some 119) _ = _; simp only [Act.put, sA, sB, sC, i64_w]; rfl
      refine on 13 (some 125) HT_ rfl rfl (by kernel_rfl) (by decide) (fun K hK => ?_)
      refine goes_ Try.func23 (by kernel_rfl) rfl #[.agg #[.int .i64 first, .slice Av r.length cv], .int .i64 fr, .int .i64 m, .int .i64 W] (by rfl) rfl rfl (by (try simp only [List.map_toArray, List.map_cons, List.map_nil]); first | done | rfl | (simp only [List.length_drop, List.length_take]; rfl)) ?_
      with_reducible refine (HER.out _ K21.out.row K21.out.cap).mono ?_
      rintro ev w22 ⟨rfl, hb22⟩
      have K22 := Aside0.mk (K21.out.below hb22)
      clear hb22
      refine ⟨_, rfl, ?_⟩
      refine hK.out _ _ (K22.out.cells) (fun hHeld => ?_)
      clear hK K
      refine norm_ (a' := ?_) ?_ ?_
      rotate_left
      ·show Act.put _ (some 125) _ = _; simp only [Act.put, sA, sB, sC, i64_w]; rfl
      refine pu 14 (some 126) ?_ HT_ rfl rfl (by kernel_rfl) (fun _ _ _ h => h) (Or.inl ⟨by rfl, ?_⟩) ?_ ?_ ?_
      rotate_left
      ·intro w'; go_simp; with_reducible rfl
      rotate_left
      ·simp only [Act.put, sA, sB, sC, i64_w]; rfl
      refine pu 15 (some 127) ?_ HT_ rfl rfl (by kernel_rfl) (fun _ _ _ h => h) (Or.inl ⟨by rfl, ?_⟩) ?_ ?_ ?_
      rotate_left
      ·intro w'; go_simp; with_reducible rfl
      rotate_left
      ·simp only [Act.put, sA, sB, sC, i64_w]; rfl
      refine pu 16 (some 128) ?_ HT_ rfl rfl (by kernel_rfl) (fun _ _ _ h => h) (Or.inl ⟨by rfl, ?_⟩) ?_ ?_ ?_
      rotate_left
      ·intro w'; go_simp; with_reducible rfl
      rotate_left
      ·simp only [Act.put, sA, sB, sC, i64_w]; rfl
      refine pu 17 (some 129) ?_ HT_ rfl rfl (by kernel_rfl) (fun _ _ _ h => h) (Or.inl ⟨by rfl, ?_⟩) ?_ ?_ ?_
      rotate_left
      ·intro w'; go_simp; with_reducible rfl
      rotate_left
      ·simp only [Act.put, sA, sB, sC, i64_w]; rfl
      refine pu 18 (some 130) ?_ HT_ rfl rfl (by kernel_rfl) (fun _ _ _ h => h) (Or.inl ⟨by rfl, ?_⟩) ?_ ?_ ?_
      rotate_left
      ·intro w'; go_simp; with_reducible rfl
      rotate_left
      ·simp only [Act.put, sA, sB, sC, i64_w]; rfl
      refine pu 19 (some 131) ?_ HT_ rfl rfl (by kernel_rfl) (fun _ _ _ h => h) (Or.inl ⟨by rfl, ?_⟩) ?_ ?_ ?_
      rotate_left
      ·intro w'; go_simp; with_reducible rfl
      rotate_left
      ·simp only [Act.put, sA, sB, sC, i64_w]; rfl
      refine pu 20 (some 132) ?_ HT_ rfl rfl (by kernel_rfl) (fun _ _ _ h => h) (Or.inl ⟨by rfl, ?_⟩) ?_ ?_ ?_
      rotate_left
      ·intro w'; go_simp; with_reducible rfl
      rotate_left
      ·simp only [Act.put, sA, sB, sC, i64_w]; rfl
      refine pu 21 (some 133) ?_ HT_ rfl rfl (by kernel_rfl) (fun _ _ _ h => h) (Or.inl ⟨by rfl, ?_⟩) ?_ ?_ ?_
      rotate_left
      ·intro w'; go_simp; with_reducible rfl
      rotate_left
      ·simp only [Act.put, sA, sB, sC, i64_w]; rfl
      refine pu 22 (some 134) ?_ HT_ rfl rfl (by kernel_rfl) (fun _ _ _ h => h) (Or.inl ⟨by rfl, ?_⟩) ?_ ?_ ?_
      rotate_left
      ·intro w'; go_simp; with_reducible rfl
      rotate_left
      ·simp only [Act.put, sA, sB, sC, i64_w]; rfl
      refine pu 23 (some 135) ?_ HT_ rfl rfl (by kernel_rfl) (fun _ _ _ h => h) (Or.inl ⟨by rfl, ?_⟩) ?_ ?_ ?_
      rotate_left
      ·intro w'; go_simp; with_reducible rfl
      rotate_left
      ·simp only [Act.put, sA, sB, sC, i64_w]; rfl
      refine pu 24 (some 136) ?_ HT_ rfl rfl (by kernel_rfl) (fun _ _ _ h => h) (Or.inl ⟨by rfl, ?_⟩) ?_ ?_ ?_
      rotate_left
      ·intro w'; go_simp; with_reducible rfl
      rotate_left
      ·simp only [Act.put, sA, sB, sC, i64_w]; rfl
      refine pu 25 (some 137) ?_ HT_ rfl rfl (by kernel_rfl) (fun _ _ _ h => h) (Or.inl ⟨by rfl, ?_⟩) ?_ ?_ ?_
      rotate_left
      ·intro w'; go_simp; with_reducible rfl
      rotate_left
      ·simp only [Act.put, sA, sB, sC, i64_w]; rfl
      refine pu 26 (some 138) ?_ HT_ rfl rfl (by kernel_rfl) (fun _ _ _ h => h) (Or.inl ⟨by rfl, ?_⟩) ?_ ?_ ?_
      rotate_left
      ·intro w'; go_simp; with_reducible rfl
      rotate_left
      ·simp only [Act.put, sA, sB, sC, i64_w]; rfl
      refine pu 27 (some 139) ?_ HT_ rfl rfl (by kernel_rfl) (fun _ _ _ h => h) (Or.inl ⟨by rfl, ?_⟩) ?_ ?_ ?_
      rotate_left
      ·intro w'; go_simp; with_reducible rfl
      rotate_left
      ·simp only [Act.put, sA, sB, sC, i64_w]; rfl
      refine pu 29 (some 141) ?_ HT_ rfl rfl (by kernel_rfl) (fun _ _ _ h => h) (Or.inl ⟨by rfl, ?_⟩) ?_ ?_ ?_
      rotate_left
      ·intro w'; go_simp; with_reducible rfl
      rotate_left
      ·simp only [Act.put, sA, sB, sC, i64_w]; rfl
      refine pu 33 (some 145) ?_ HT_ rfl rfl (by kernel_rfl) (fun _ _ _ h => h) (Or.inl ⟨by rfl, ?_⟩) ?_ ?_ ?_
      rotate_left
      ·intro w'; go_simp; with_reducible rfl
      rotate_left
      ·simp only [Act.put, sA, sB, sC, i64_w]; rfl
      refine pu 35 (some 147) ?_ HT_ rfl rfl (by kernel_rfl) (fun _ _ _ h => h) (Or.inl ⟨by rfl, ?_⟩) ?_ ?_ ?_
      rotate_left
      ·intro w'; go_simp; with_reducible rfl
      rotate_left
      ·simp only [Act.put, sA, sB, sC, i64_w]; rfl
      refine tk 28 (some 140) ?_ HT_ HW_ rfl rfl (by kernel_rfl) (fun _ _ _ h => h) (Or.inl ⟨by rfl, ?_⟩) hHeld ?_ ?_ ?_
      rotate_left
      ·rintro w' ⟨s0, s1, s2, s3, s4, s5, s6⟩; go_simp; with_reducible rfl
      rotate_left
      ·simp only [Act.put, sA, sB, sC, i64_w]; rfl
      refine tk 30 (some 142) ?_ HT_ HW_ rfl rfl (by kernel_rfl) (fun _ _ _ h => h) (Or.inl ⟨by rfl, ?_⟩) hHeld ?_ ?_ ?_
      rotate_left
      ·rintro w' ⟨s0, s1, s2, s3, s4, s5, s6⟩; go_simp; with_reducible rfl
      rotate_left
      ·simp only [Act.put, sA, sB, sC, i64_w]; rfl
      refine tk 32 (some 144) ?_ HT_ HW_ rfl rfl (by kernel_rfl) (fun _ _ _ h => h) (Or.inl ⟨by rfl, ?_⟩) hHeld ?_ ?_ ?_
      rotate_left
      ·rintro w' ⟨s0, s1, s2, s3, s4, s5, s6⟩; go_simp; with_reducible rfl
      rotate_left
      ·simp only [Act.put, sA, sB, sC, i64_w]; rfl
      refine on 31 (some 143) HT_ rfl rfl (by kernel_rfl) (by decide) (fun K hK => ?_)
      refine goes_ Try.func12 (by kernel_rfl) rfl #[.pointer (some ⟨p, 0, none⟩), .int .i64 fr, .int .i64 m] (by rfl) rfl rfl (by (try simp only [List.map_toArray, List.map_cons, List.map_nil]); first | done | rfl | (simp only [List.length_drop, List.length_take]; rfl)) ?_
      with_reducible refine (HWI.out _ K22.out.st).mono ?_
      rintro ev w23 ⟨rfl, hb23⟩
      have K23 := Aside0.mk (K22.out.below hb23)
      clear hb23
      refine ⟨_, rfl, ?_⟩
      refine hK.out _ _ (K23.out.cells) (fun hHeld => ?_)
      clear hK K
      refine norm_ (a' := ?_) ?_ ?_
      rotate_left
      ·show Act.put _ (some 143) _ = _; simp only [Act.put, sA, sB, sC, i64_w]; rfl
      refine on 34 (some 146) HT_ rfl rfl (by kernel_rfl) (by decide) (fun K hK => ?_)
      refine goes_ Try.func25 (by kernel_rfl) rfl #[.int .i64 fr] (by rfl) rfl rfl (by (try simp only [List.map_toArray, List.map_cons, List.map_nil]); first | done | rfl | (simp only [List.length_drop, List.length_take]; rfl)) ?_
      with_reducible refine (rclamp_calls fr _).mono ?_
      rintro ev w24 ⟨rfl, hb24⟩
      have K24 := Aside0.mk (K23.out.below hb24)
      clear hb24
      refine ⟨_, rfl, ?_⟩
      refine hK.out _ _ (K24.out.cells) (fun hHeld => ?_)
      clear hK K
      refine norm_ (a' := ?_) ?_ ?_
      rotate_left
      ·show Act.put _ (some 146) _ = _; simp only [Act.put, sA, sB, sC, i64_w]; rfl
      refine on 36 (some 148) HT_ rfl rfl (by kernel_rfl) (by decide) (fun K hK => ?_)
      refine goes_ Try.func24 (by kernel_rfl) rfl #[.agg #[.int .i64 first, .slice Av r.length cv], .int .i64 (clT fr), .int .i64 m] (by rfl) rfl rfl (by (try simp only [List.map_toArray, List.map_cons, List.map_nil]); first | done | rfl | (simp only [List.length_drop, List.length_take]; rfl)) ?_
      with_reducible refine (HLE2.out _ K24.out.row K24.out.cap).mono ?_
      rintro ev w25 ⟨rfl, hb25⟩
      have K25 := Aside0.mk (K24.out.below hb25)
      clear hb25
      refine ⟨_, rfl, ?_⟩
      refine hK.out _ _ (K25.out.cells) (fun hHeld => ?_)
      clear hK K
      refine norm_ (a' := ?_) ?_ ?_
      rotate_left
      ·show Act.put _ (some 148) _ = _; simp only [Act.put, sA, sB, sC, i64_w]; rfl
      refine pu 37 (some 149) ?_ HT_ rfl rfl (by kernel_rfl) (fun _ _ _ h => h) (Or.inl ⟨by rfl, ?_⟩) ?_ ?_ ?_
      rotate_left
      ·intro w'; go_simp; with_reducible rfl
      rotate_left
      ·simp only [Act.put, sA, sB, sC, i64_w]; rfl
      refine pu 38 (some 150) ?_ HT_ rfl rfl (by kernel_rfl) (fun _ _ _ h => h) (Or.inl ⟨by rfl, ?_⟩) ?_ ?_ ?_
      rotate_left
      ·intro w'; go_simp; with_reducible rfl
      rotate_left
      ·simp only [Act.put, sA, sB, sC, i64_w]; rfl
      refine pu 39 (some 151) ?_ HT_ rfl rfl (by kernel_rfl) (fun _ _ _ h => h) (Or.inl ⟨by rfl, ?_⟩) ?_ ?_ ?_
      rotate_left
      ·intro w'; go_simp; with_reducible rfl
      rotate_left
      ·simp only [Act.put, sA, sB, sC, i64_w]; rfl
      refine on 40 (some 152) HT_ rfl rfl (by kernel_rfl) (by decide) (fun K hK => ?_)
      refine goes_ Try.func17 (by kernel_rfl) rfl #[] (by rfl) rfl rfl (by (try simp only [List.map_toArray, List.map_cons, List.map_nil]); first | done | rfl | (simp only [List.length_drop, List.length_take]; rfl)) ?_
      with_reducible refine (one11_calls _).mono ?_
      rintro ev w26 ⟨rfl, hb26⟩
      have K26 := Aside0.mk (K25.out.below hb26)
      clear hb26
      refine ⟨_, rfl, ?_⟩
      refine hK.out _ _ (K26.out.cells) (fun hHeld => ?_)
      clear hK K
      refine norm_ (a' := ?_) ?_ ?_
      rotate_left
      ·show Act.put _ (some 152) _ = _; simp only [Act.put, sA, sB, sC, i64_w]; rfl
      refine pu 41 (some 153) ?_ HT_ rfl rfl (by kernel_rfl) (fun _ _ _ h => h) (Or.inl ⟨by rfl, ?_⟩) ?_ ?_ ?_
      rotate_left
      ·intro w'; go_simp; with_reducible rfl
      rotate_left
      ·simp only [Act.put, sA, sB, sC, i64_w]; rfl
      refine pu 42 (some 6) ?_ HT_ rfl rfl (by kernel_rfl) (fun _ _ _ h => h) (Or.inl ⟨by rfl, ?_⟩) ?_ ?_ ?_
      rotate_left
      ·intro w'; go_simp; with_reducible rfl
      rotate_left
      ·simp only [Act.put, sA, sB, sC, i64_w]; rfl
      refine done_ (done_of HT_.out (by kernel_rfl)) ?_
      go_wp2
      go_ret
      exact ⟨rfl, K26.out.bel⟩
theorem FitFinds_walk (first : Int) (A : Option Addr) (c : Nat) (xs : List ActS) (fr many W ta tb : Int) (w : World) (_ : (Lit.int .i64 first).wf = true) (hr : Kd.C kAct w A xs.length xs) (hc : xs.length ≤ c) (_ : ∀ y ∈ xs, True) (_ : (Lit.int .i64 W).wf = true) :
  Calls Try.prog 5 #[.int .i64 first, .slice A xs.length c, .agg #[.int .i64 fr, .int .i64 many, .int .i64 W, .int .i64 ta, .int .i64 tb]] w fun e w' => e = .returned (.bool true) ∧ Below w.heap.size w w' :=
 fitFinds_calls first A c xs fr many W ta tb w hr hc
end Go.Proofs.Ytlddccmgamlccaa.Us
