/- A part of the proofs over usage and fit (UE): contracts of the program's functions and plain laws of levels. Conditions: those that each theorem states. -/
import Derived.Test.YtlddccmgamlccaaUD
set_option linter.unusedVariables false
set_option linter.unusedSimpArgs false
/- Plain: the level of steps at a time; what a turn of a span's levels does to it. -/
namespace Go.Proofs.Ytlddccmgamlccaa.Us
open Go Go.RowKit Go.Proofs.YtlddccmgamlccaaW.PrintWords

/-- the level at a time, of steps that rise; acc ahead of them -/
def levR : List (Int × Int) → Int → Int → Int
 | [], acc, _ => acc
 | s :: r, acc, τ => if s.1 ≤ τ then levR r s.2 τ else acc
def lev (l : List (Int × Int)) (τ : Int) : Int := levR l 0 τ

theorem levR_none : ∀ (l : List (Int × Int)) (acc τ : Int), (∀ s ∈ l, τ < s.1) → levR l acc τ = acc
 | [], _, _, _ => rfl
 | s :: r, acc, τ, h => by
  have := h s List.mem_cons_self
  unfold levR
  rw [if_neg (by omega)]
theorem rise_cons {s : Int × Int} {r : List (Int × Int)} (h : Rise (s :: r)) : (∀ x ∈ r, s.1 < x.1) ∧ Rise r := by
 unfold Rise at h ⊢
 rw [List.pairwise_cons] at h
 exact h
theorem levR_cpt : ∀ (r : List (Int × Int)) (acc τ : Int), Rise r → levR (cpt acc r) acc τ = levR r acc τ
 | [], _, _, _ => rfl
 | s :: r, acc, τ, h => by
  obtain ⟨h1, h2⟩ := rise_cons h
  unfold cpt
  split
  ·rename_i he
   have ih := levR_cpt r acc τ h2
   rw [ih]
   show _ = if s.1 ≤ τ then levR r s.2 τ else acc
   split
   ·rw [he]
   ·rename_i hn
    exact levR_none _ _ _ (fun x hx => by have := h1 x hx; omega)
  ·show (if s.1 ≤ τ then levR (cpt s.2 r) s.2 τ else acc) = if s.1 ≤ τ then levR r s.2 τ else acc
   rw [levR_cpt r s.2 τ h2]
theorem lev_compact (l : List (Int × Int)) (h : Rise l) (τ : Int) : lev (compactL l) τ = lev l τ := by
 unfold lev
 match l, h with
 | [], _ => rfl
 | s :: r, h =>
  obtain ⟨_, h2⟩ := rise_cons h
  show (if s.1 ≤ τ then levR (cpt s.2 r) s.2 τ else 0) = if s.1 ≤ τ then levR r s.2 τ else 0
  rw [levR_cpt r s.2 τ h2]
/-- a step put in with the level that there is -/
theorem levR_put : ∀ (A B : List (Int × Int)) (acc t y τ : Int), (A.getLast?.map (·.2)).getD acc = y → (∀ s ∈ A, s.1 ≤ t) → (∀ s ∈ B, t < s.1) → levR (A ++ (t, y) :: B) acc τ = levR (A ++ B) acc τ
 | [], B, acc, t, y, τ, hy, _, hB => by
  obtain rfl : acc = y := hy
  show (if t ≤ τ then levR B acc τ else acc) = levR B acc τ
  split
  ·rfl
  ·exact (levR_none _ _ _ (fun s hs => by have := hB s hs; omega)).symm
 | s :: A, B, acc, t, y, τ, hy, hA, hB => by
  show (if s.1 ≤ τ then levR (A ++ (t, y) :: B) s.2 τ else acc) = if s.1 ≤ τ then levR (A ++ B) s.2 τ else acc
  rw [levR_put A B s.2 t y τ ?_ (fun x hx => hA x (List.mem_cons_of_mem _ hx)) hB]
  rw [← hy]
  cases A with
  | nil => rfl
  | cons a A => simp [List.getLast?_cons_cons, List.getLast?_cons]
/-- levels of a part are others -/
theorem levR_mid (f : Int → Int) (b' τ : Int) (B : List (Int × Int)) (hB : (∃ z B', B = (b', z) :: B') ∨ (B = [] ∧ τ < b')) : ∀ (M : List (Int × Int)) (acc : Int), (∀ s ∈ M, s.1 < b') →
  levR (M.map (fun s => (s.1, lvT (f s.2))) ++ B) (lvT (f acc)) τ = if τ < b' then lvT (f (levR (M ++ B) acc τ)) else levR (M ++ B) acc τ
 | [], acc, _ => by
  rcases hB with ⟨z, B', rfl⟩ | ⟨rfl, h⟩
  ·show (if b' ≤ τ then levR B' z τ else lvT (f acc)) = if τ < b' then lvT (f (if b' ≤ τ then levR B' z τ else acc)) else (if b' ≤ τ then levR B' z τ else acc)
   by_cases h : b' ≤ τ
   ·rw [if_pos h, if_neg (by omega), if_pos h]
   ·rw [if_neg h, if_pos (by omega), if_neg h]
  ·show lvT (f acc) = if τ < b' then lvT (f acc) else acc
   rw [if_pos h]
 | s :: M, acc, hM => by
  have hs := hM s List.mem_cons_self
  show (if s.1 ≤ τ then levR (M.map (fun s => (s.1, lvT (f s.2))) ++ B) (lvT (f s.2)) τ else lvT (f acc)) = if τ < b' then lvT (f (if s.1 ≤ τ then levR (M ++ B) s.2 τ else acc)) else (if s.1 ≤ τ then levR (M ++ B) s.2 τ else acc)
  by_cases h : s.1 ≤ τ
  ·rw [if_pos h, if_pos h]
   exact levR_mid f b' τ B hB M s.2 (fun x hx => hM x (List.mem_cons_of_mem _ hx))
  ·rw [if_neg h, if_neg h, if_pos (by omega)]
theorem levR_turn (f : Int → Int) (a' b' τ : Int) (hab : a' < b') (M B : List (Int × Int)) (y : Int) (hM : ∀ s ∈ M, s.1 < b') (hB : (∃ z B', B = (b', z) :: B') ∨ (B = [] ∧ τ < b')) : ∀ (A : List (Int × Int)) (acc : Int), (∀ s ∈ A, s.1 < a') →
  levR (A ++ ((a', y) :: M).map (fun s => (s.1, lvT (f s.2))) ++ B) acc τ = if a' ≤ τ ∧ τ < b' then lvT (f (levR (A ++ (a', y) :: M ++ B) acc τ)) else levR (A ++ (a', y) :: M ++ B) acc τ
 | [], acc, _ => by
  have h := levR_mid f b' τ B hB M y hM
  show (if a' ≤ τ then levR (M.map (fun s => (s.1, lvT (f s.2))) ++ B) (lvT (f y)) τ else acc) = if a' ≤ τ ∧ τ < b' then lvT (f (if a' ≤ τ then levR (M ++ B) y τ else acc)) else (if a' ≤ τ then levR (M ++ B) y τ else acc)
  by_cases h1 : a' ≤ τ
  ·rw [if_pos h1, if_pos h1, h]
   by_cases h2 : τ < b'
   ·rw [if_pos h2, if_pos ⟨h1, h2⟩]
   ·rw [if_neg h2, if_neg (fun e => h2 e.2)]
  ·rw [if_neg h1, if_neg h1, if_neg (fun e => h1 e.1)]
 | s :: A, acc, hA => by
  have hs := hA s List.mem_cons_self
  have ih := levR_turn f a' b' τ hab M B y hM hB A s.2 (fun x hx => hA x (List.mem_cons_of_mem _ hx))
  show (if s.1 ≤ τ then levR (A ++ ((a', y) :: M).map (fun s => (s.1, lvT (f s.2))) ++ B) s.2 τ else acc) = if a' ≤ τ ∧ τ < b' then lvT (f (if s.1 ≤ τ then levR (A ++ (a', y) :: M ++ B) s.2 τ else acc)) else (if s.1 ≤ τ then levR (A ++ (a', y) :: M ++ B) s.2 τ else acc)
  by_cases h : s.1 ≤ τ
  ·rw [if_pos h, if_pos h, ih]
  ·rw [if_neg h, if_neg h, if_neg (by omega)]

/-- the cut, in parts -/
theorem cut_parts {l : List (Int × Int)} (h : Lev l) (t : Int) (h0 : 0 ≤ t) (ht : t < 1099511627776) :
  ∃ (C B : List (Int × Int)) (y : Int), C = l.take C.length ∧ cutL l t = C ++ (t, y) :: B ∧ cutI l t = C.length ∧ (∀ s ∈ C, s.1 < t) ∧ (∀ s ∈ B, t < s.1) ∧ (∀ s ∈ l.drop C.length, t ≤ s.1) ∧ ∀ τ, lev (cutL l t) τ = lev l τ := by
 obtain ⟨y0, r0, hl⟩ := h.head
 obtain ⟨p1, p2⟩ := pl_spec h.rise t (0, y0) r0 hl h0
 have hlt := pl_lt t h.ne
 unfold cutL cutI
 rw [if_neg (by omega), if_neg (by omega), List.getElem?_eq_getElem hlt]
 dsimp only
 generalize hk : pl l t = k at p1 p2 hlt
 have hdr : ∀ s ∈ l.drop (k + 1), t < s.1 := fun s hs => by
  obtain ⟨j, hj, rfl⟩ := List.getElem_of_mem hs
  rw [List.getElem_drop]
  rw [List.length_drop] at hj
  exact p2 _ (by omega) (by omega)
 by_cases he : l[k].1 = t
 ·rw [if_pos he, if_pos he]
  refine ⟨l.take k, l.drop (k + 1), l[k].2, ?_, ?_, ?_, fun s hs => ?_, hdr, fun s hs => ?_, fun τ => rfl⟩
  ·rw [List.length_take, Nat.min_eq_left (by omega)]
  ·conv => lhs; rw [← List.take_append_drop k l]
   congr 1
   rw [List.drop_eq_getElem_cons hlt, ← he]
  ·rw [List.length_take]; omega
  ·obtain ⟨j, hj, rfl⟩ := List.getElem_of_mem hs
   rw [List.getElem_take]
   rw [List.length_take] at hj
   have := rise_at h.rise j k (by omega) hlt (by omega)
   omega
  ·rw [List.length_take, Nat.min_eq_left (by omega), List.drop_eq_getElem_cons hlt] at hs
   rcases List.mem_cons.1 hs with rfl | hs
   ·omega
   ·exact Int.le_of_lt (hdr s hs)
 ·rw [if_neg he, if_neg he]
  have htl : ∀ s ∈ l.take (k + 1), s.1 < t := fun s hs => by
   obtain ⟨j, hj, rfl⟩ := List.getElem_of_mem hs
   rw [List.getElem_take]
   rw [List.length_take] at hj
   have h1 := p1 k hlt (Nat.le_refl _)
   rcases Nat.lt_or_ge j k with hjk | hjk
   ·have := rise_at h.rise j k (by omega) hlt hjk
    omega
   ·obtain rfl : j = k := by omega
    omega
  refine ⟨l.take (k + 1), l.drop (k + 1), l[k].2, ?_, rfl, ?_, htl, hdr, fun s hs => ?_, fun τ => ?_⟩
  ·rw [List.length_take, Nat.min_eq_left (by omega)]
  ·rw [List.length_take]; omega
  ·rw [List.length_take, Nat.min_eq_left (by omega)] at hs
   exact Int.le_of_lt (hdr s hs)
  ·unfold lev
   have hy : ((l.take (k + 1)).getLast?.map (·.2)).getD 0 = l[k].2 := by
    rw [List.take_succ_eq_append_getElem hlt, List.getLast?_concat]
    rfl
   rw [levR_put _ _ _ _ _ _ hy (fun s hs => Int.le_of_lt (htl s hs)) hdr, List.take_append_drop]

theorem take_split {α : Type} (A : List α) (x : α) (M0 : List α) (n : Nat) (h : A.length < n) : (A ++ x :: M0).take n = A ++ x :: M0.take (n - A.length - 1) := by
 obtain ⟨d, rfl⟩ : ∃ d, n = A.length + (d + 1) := ⟨n - A.length - 1, by omega⟩
 rw [List.take_append, List.take_of_length_le (by omega), show A.length + (d + 1) - A.length = d + 1 by omega, List.take_succ_cons]
 rfl

/-- a turn of a span's levels -/
theorem lev_turn {l : List (Int × Int)} (h : Lev l) (f : Int → Int) (a b τ : Int) (hτ : τ < 1099511627776) : lev (turnL f l a b) τ = if clT a ≤ τ ∧ τ < clT b then lvT (f (lev l τ)) else lev l τ := by
 have ra := clT_range a
 have rb := clT_range b
 unfold turnL
 generalize clT a = a' at ra ⊢
 generalize clT b = b' at rb ⊢
 by_cases hab : a' ≥ b'
 ·rw [if_pos hab, if_neg (by omega)]
 ·rw [if_neg hab]
  have hL1 := h.cut a' ra.1
  have hL2 := hL1.cut b' rb.1
  rw [lev_compact _ (hL2.map f _ _).rise]
  obtain ⟨A, M0, y, hA, h1, hi1, hAl, hM0, _, hv1⟩ := cut_parts h a' ra.1 (by omega)
  by_cases hb : b' < 1099511627776
  ·obtain ⟨C, B, z, hC, h2, hi2, hCl, hB, hD, hv2⟩ := cut_parts hL1 b' rb.1 hb
   obtain ⟨M, hM⟩ : ∃ M, C = A ++ (a', y) :: M := by
    have hlen : A.length < C.length := by
     rcases Nat.lt_or_ge A.length C.length with h3 | h3
     ·exact h3
     ·exfalso
      rw [h1, List.drop_append_of_le_length h3] at hD
      have h7 : b' ≤ a' := hD (a', y) (List.mem_append.2 (.inr List.mem_cons_self))
      omega
    refine ⟨M0.take (C.length - A.length - 1), ?_⟩
    have h4 : C = (A ++ (a', y) :: M0).take C.length := by rw [← h1]; exact hC
    exact h4.trans (take_split A (a', y) M0 C.length hlen)
   rw [hi1, hi2, h2]
   have hm : mapL f (C ++ (b', z) :: B) A.length C.length = A ++ ((a', y) :: M).map (fun s => (s.1, lvT (f s.2))) ++ (b', z) :: B := by
    unfold mapL
    rw [hM]
    have e1 : (A ++ (a', y) :: M ++ (b', z) :: B).take A.length = A := by rw [List.append_assoc, List.take_left']; rfl
    have e2 : (A ++ (a', y) :: M ++ (b', z) :: B).drop A.length = (a', y) :: M ++ (b', z) :: B := by rw [List.append_assoc, List.drop_left']; rfl
    have e3 : (A ++ (a', y) :: M).length - A.length = ((a', y) :: M).length := by simp
    have e4 : max A.length (A ++ (a', y) :: M).length = (A ++ (a', y) :: M).length := by rw [List.length_append]; omega
    rw [e1, e2, e3, e4, List.take_left', List.drop_left'] <;> rfl
   rw [hm]
   have hlt := levR_turn f a' b' τ (by omega) M ((b', z) :: B) y (fun s hs => hCl s (by rw [hM]; exact List.mem_append.2 (.inr (List.mem_cons_of_mem _ hs)))) (.inl ⟨z, B, rfl⟩) A 0 hAl
   have hlv : levR (A ++ (a', y) :: M ++ (b', z) :: B) 0 τ = lev l τ := by rw [← hM, ← h2, ← hv1, ← hv2]; rfl
   rw [hlv] at hlt
   exact hlt
  ·have hcut : cutL (cutL l a') b' = cutL l a' := by unfold cutL; rw [if_pos (by omega)]
   have hci : cutI (cutL l a') b' = (cutL l a').length := by unfold cutI; rw [if_pos (by omega)]
   rw [hcut, hci, hi1, h1]
   have hm : mapL f (A ++ (a', y) :: M0) A.length (A ++ (a', y) :: M0).length = A ++ ((a', y) :: M0).map (fun s => (s.1, lvT (f s.2))) ++ [] := by
    unfold mapL
    have e1 : (A ++ (a', y) :: M0).take A.length = A := by rw [List.take_left']; rfl
    have e2 : (A ++ (a', y) :: M0).drop A.length = (a', y) :: M0 := by rw [List.drop_left']; rfl
    have e3 : (A ++ (a', y) :: M0).length - A.length = ((a', y) :: M0).length := by simp
    have e4 : max A.length (A ++ (a', y) :: M0).length = (A ++ (a', y) :: M0).length := by rw [List.length_append]; omega
    rw [e1, e2, e3, e4, List.take_length, List.drop_length]
   rw [hm]
   have hM0b : ∀ s ∈ M0, s.1 < b' := fun s hs => by
    have := hL1.top s (by rw [h1]; exact List.mem_append.2 (.inr (List.mem_cons_of_mem _ hs)))
    omega
   have hlt := levR_turn f a' b' τ (by omega) M0 [] y hM0b (.inr ⟨rfl, by omega⟩) A 0 hAl
   have hlv : levR (A ++ (a', y) :: M0 ++ []) 0 τ = lev l τ := by rw [List.append_nil, ← h1, ← hv1]; rfl
   rw [hlv] at hlt
   exact hlt
end Go.Proofs.Ytlddccmgamlccaa.Us

set_option linter.unusedVariables false
set_option linter.unusedSimpArgs false
/- Plain: from which times on a width is free for so many, by the level at each time. -/
namespace Go.Proofs.Ytlddccmgamlccaa.Us
open Go Go.RowKit Go.Proofs.YtlddccmgamlccaaW.PrintWords
open Go.Proofs.SpanLaw (Fine In fine_cons in_cons)
open Go.Proofs.Ytlddccmgamlccaa.PJoin (S25 joinR joined spS cleaned joined_fine in_cleaned joinR_sp)

theorem levR_at : ∀ (l : List (Int × Int)) (acc τ : Int) (j : Nat) (hj : j < l.length), Rise l → l[j].1 ≤ τ → (∀ h : j + 1 < l.length, τ < l[j + 1].1) → levR l acc τ = l[j].2
 | [], acc, τ, j, hj, _, _, _ => by simp at hj
 | s :: r, acc, τ, 0, hj, hr, h1, h2 => by
  have h1' : s.1 ≤ τ := h1
  show (if s.1 ≤ τ then levR r s.2 τ else acc) = s.2
  rw [if_pos h1']
  refine levR_none _ _ _ (fun x hx => ?_)
  obtain ⟨k, hk, rfl⟩ := List.getElem_of_mem hx
  obtain ⟨_, hr2⟩ := rise_cons hr
  have h3 : τ < r[0].1 := h2 (by simp; omega)
  rcases Nat.eq_zero_or_pos k with rfl | hk0
  ·exact h3
  ·have := rise_at hr2 0 k (by omega) hk hk0
   omega
 | s :: r, acc, τ, j + 1, hj, hr, h1, h2 => by
  obtain ⟨hs, hr2⟩ := rise_cons hr
  have hjr : j < r.length := by simpa using hj
  have h1' : r[j].1 ≤ τ := h1
  have := hs r[j] (List.getElem_mem hjr)
  show (if s.1 ≤ τ then levR r s.2 τ else acc) = r[j].2
  rw [if_pos (by omega)]
  exact levR_at r s.2 τ j hjr hr2 h1' (fun h => h2 (by simpa using h))
theorem endL_lt {l : List (Int × Int)} {i : Nat} {τ : Int} (h : τ < endL l i) : ∀ h : i + 1 < l.length, τ < l[i + 1].1 := fun hi => by
 unfold endL at h
 rw [List.getElem?_eq_getElem hi] at h
 exact h
theorem lt_endL {l : List (Int × Int)} {i : Nat} {τ : Int} (hτ : τ < 1099511627776) (h : ∀ h : i + 1 < l.length, τ < l[i + 1].1) : τ < endL l i := by
 unfold endL
 rcases Nat.lt_or_ge (i + 1) l.length with hi | hi
 ·rw [List.getElem?_eq_getElem hi]; exact h hi
 ·rw [List.getElem?_eq_none hi]; exact hτ
theorem lev_step {l : List (Int × Int)} (h : Lev l) (τ : Int) (j : Nat) (hj : j < l.length) (h1 : l[j].1 ≤ τ) (h2 : τ < endL l j) : lev l τ = l[j].2 := levR_at l 0 τ j hj h.rise h1 (endL_lt h2)
theorem lev_cover {l : List (Int × Int)} (h : Lev l) (τ : Int) (h0 : 0 ≤ τ) (hτ : τ < 1099511627776) : ∃ j, ∃ hj : j < l.length, l[j].1 ≤ τ ∧ τ < endL l j ∧ lev l τ = l[j].2 := by
 obtain ⟨y0, r0, hl⟩ := h.head
 obtain ⟨p1, p2⟩ := pl_spec h.rise τ (0, y0) r0 hl h0
 have hlt := pl_lt τ h.ne
 have h1 := p1 _ hlt (Nat.le_refl _)
 have h2 := lt_endL hτ (i := pl l τ) (l := l) (fun hh => p2 _ hh (by omega))
 exact ⟨pl l τ, hlt, h1, h2, lev_step h τ _ hlt h1 h2⟩
theorem lev_range {l : List (Int × Int)} (h : Lev l) (τ : Int) (h0 : 0 ≤ τ) (hτ : τ < 1099511627776) : -1000000 ≤ lev l τ ∧ lev l τ ≤ 1000000 := by
 obtain ⟨j, hj, _, _, e⟩ := lev_cover h τ h0 hτ
 rw [e]
 exact h.lvl _ (List.getElem_mem hj)

/-! ### the least level -/
theorem clT_id {t : Int} (h : 0 ≤ t ∧ t ≤ 1099511627776) : clT t = t := clT_clT h
theorem endL_range {l : List (Int × Int)} (h : Lev l) (i : Nat) : 0 ≤ endL l i ∧ endL l i ≤ 1099511627776 := by
 unfold endL
 split
 ·rename_i s hs
  have := h.top s (List.mem_of_getElem? hs)
  omega
 ·omega
theorem endL_getD (l : List (Int × Int)) (i : Nat) : ((l[i + 1]?).map (·.1)).getD 1099511627776 = endL l i := by
 unfold endL
 cases l[i + 1]? <;> rfl
theorem cutP_empty {a b x e : Int} (hx : 0 ≤ x ∧ x ≤ 1099511627776) (he : 0 ≤ e ∧ e ≤ 1099511627776) : ((cutP a b x e).1 ≥ (cutP a b x e).2) ↔ ¬ ∃ τ, clT a ≤ τ ∧ τ < clT b ∧ x ≤ τ ∧ τ < e := by
 unfold cutP
 rw [clT_id hx, clT_id he]
 by_cases h : mx (clT a) x ≥ mn (clT b) e
 ·rw [if_pos h]
  refine ⟨fun _ => ?_, fun _ => Int.le_refl _⟩
  rintro ⟨τ, h1, h2, h3, h4⟩
  unfold mx mn at h
  split at h <;> split at h <;> omega
 ·rw [if_neg h]
  refine ⟨fun hh => absurd hh h, fun hh => ?_⟩
  exfalso
  refine hh ⟨mx (clT a) x, ?_⟩
  unfold mx mn at h
  unfold mx
  split at h <;> split at h <;> split <;> (refine ⟨?_, ?_, ?_, ?_⟩ <;> omega)
theorem pickN_spec {l : List (Int × Int)} (h : Lev l) (a b v : Int) : ∀ n, n ≤ l.length →
  (pickN l a b n = none → ∀ j (hj : j < l.length), j < n → ¬ ∃ τ, clT a ≤ τ ∧ τ < clT b ∧ l[j].1 ≤ τ ∧ τ < endL l j) ∧
  (∀ m, pickN l a b n = some m → (m ≥ v ↔ ∀ j (hj : j < l.length), j < n → (∃ τ, clT a ≤ τ ∧ τ < clT b ∧ l[j].1 ≤ τ ∧ τ < endL l j) → l[j].2 ≥ v))
 | 0, _ => ⟨fun _ j _ hj => by omega, fun m hm => by simp [pickN] at hm⟩
 | n + 1, hn => by
  have hlt : n < l.length := by omega
  obtain ⟨i1, i2⟩ := pickN_spec h a b v n (by omega)
  have hx := h.top _ (List.getElem_mem hlt)
  have hce := cutP_empty (a := a) (b := b) (x := l[n].1) (e := endL l n) ⟨hx.1, by omega⟩ (endL_range h n)
  have hp : pickN l a b (n + 1) = if (cutP a b l[n].1 (endL l n)).1 ≥ (cutP a b l[n].1 (endL l n)).2 then pickN l a b n else better (pickN l a b n) l[n].2 := by
   rw [pickN, List.getElem?_eq_getElem hlt]
   simp only [endL_getD]
  rw [hp]
  by_cases hc : (cutP a b l[n].1 (endL l n)).1 ≥ (cutP a b l[n].1 (endL l n)).2
  ·rw [if_pos hc]
   have hno := hce.1 hc
   refine ⟨fun hm j hj hjn => ?_, fun m hm => ?_⟩
   ·rcases Nat.lt_or_ge j n with h1 | h1
    ·exact i1 hm j hj h1
    ·obtain rfl : j = n := by omega
     exact hno
   ·rw [i2 m hm]
    refine ⟨fun hh j hj hjn ht => ?_, fun hh j hj hjn ht => hh j hj (by omega) ht⟩
    rcases Nat.lt_or_ge j n with h1 | h1
    ·exact hh j hj h1 ht
    ·obtain rfl : j = n := by omega
     exact absurd ht hno
  ·rw [if_neg hc]
   have hyes : ∃ τ, clT a ≤ τ ∧ τ < clT b ∧ l[n].1 ≤ τ ∧ τ < endL l n := Classical.byContradiction (fun hh => hc (hce.2 hh))
   refine ⟨fun hm => ?_, fun m hm => ?_⟩
   ·exfalso; unfold better at hm; split at hm <;> (try split at hm) <;> simp at hm
   ·have key : m ≥ v ↔ (∀ j (hj : j < l.length), j < n → (∃ τ, clT a ≤ τ ∧ τ < clT b ∧ l[j].1 ≤ τ ∧ τ < endL l j) → l[j].2 ≥ v) ∧ l[n].2 ≥ v := by
     cases hq : pickN l a b n with
     | none =>
      rw [hq] at hm
      simp only [better, Option.some.injEq] at hm
      subst hm
      refine ⟨fun hh => ⟨fun j hj hjn ht => absurd ht (i1 hq j hj hjn), hh⟩, fun hh => hh.2⟩
     | some q =>
      rw [hq] at hm
      rw [← i2 q hq]
      unfold better at hm
      simp only at hm
      split at hm <;> (injection hm with hm; subst hm; omega)
    rw [key]
    refine ⟨fun hh j hj hjn ht => ?_, fun hh => ⟨fun j hj hjn ht => hh j hj (by omega) ht, hh n hlt (by omega) hyes⟩⟩
    rcases Nat.lt_or_ge j n with h1 | h1
    ·exact hh.1 j hj h1 ht
    ·obtain rfl : j = n := by omega
     exact hh.2
theorem least_spec {l : List (Int × Int)} (h : Lev l) (a b v : Int) (hab : clT a < clT b) : leastL l a b ≥ v ↔ ∀ τ, clT a ≤ τ → τ < clT b → lev l τ ≥ v := by
 have ra := clT_range a
 have rb := clT_range b
 obtain ⟨p1, p2⟩ := pickN_spec h a b v l.length (Nat.le_refl _)
 unfold leastL
 cases hq : pickN l a b l.length with
 | none =>
  exfalso
  obtain ⟨j, hj, h1, h2, _⟩ := lev_cover h (clT a) ra.1 (by omega)
  exact p1 hq j hj hj ⟨clT a, Int.le_refl _, hab, h1, h2⟩
 | some m =>
  rw [Option.getD_some, p2 m hq]
  refine ⟨fun hh τ h1 h2 => ?_, fun hh j hj _ ht => ?_⟩
  ·obtain ⟨j, hj, h3, h4, h5⟩ := lev_cover h τ (by omega) (by omega)
   rw [h5]
   exact hh j hj hj ⟨τ, h1, h2, h3, h4⟩
  ·obtain ⟨τ, h1, h2, h3, h4⟩ := ht
   rw [← lev_step h τ j hj h3 h4]
   exact hh τ h1 h2

/-! ### the spans at all times of which a width is free -/
theorem cl_clT (t : Int) : PJoin.cl t = clT t := by unfold PJoin.cl clT mx mn; (repeat' split) <;> omega
theorem wideN_mem {l : List (Int × Int)} (t v : Int) (s : S25) : ∀ n, n ≤ l.length → (s ∈ wideN l t v n ↔ ∃ j, ∃ hj : j < l.length, j < n ∧ l[j].2 ≥ v ∧ s = ⟨mx l[j].1 (clT t), endL l j⟩)
 | 0, _ => by simp [wideN]
 | n + 1, hn => by
  have hlt : n < l.length := by omega
  have ih := wideN_mem (l := l) t v s n (by omega)
  rw [wideN, List.getElem?_eq_getElem hlt]
  dsimp only
  by_cases hv : l[n].2 ≥ v
  ·rw [if_pos hv, List.mem_append, ih, List.mem_singleton]
   constructor
   ·rintro (⟨j, hj, h1, h2, h3⟩ | h3)
    ·exact ⟨j, hj, by omega, h2, h3⟩
    ·exact ⟨n, hlt, by omega, hv, h3⟩
   ·rintro ⟨j, hj, h1, h2, h3⟩
    rcases Nat.lt_or_ge j n with h4 | h4
    ·exact .inl ⟨j, hj, h4, h2, h3⟩
    ·obtain rfl : j = n := by omega
     exact .inr h3
  ·rw [if_neg hv, ih]
   constructor
   ·rintro ⟨j, hj, h1, h2, h3⟩
    exact ⟨j, hj, by omega, h2, h3⟩
   ·rintro ⟨j, hj, h1, h2, h3⟩
    rcases Nat.lt_or_ge j n with h4 | h4
    ·exact ⟨j, hj, h4, h2, h3⟩
    ·obtain rfl : j = n := by omega
     exact absurd h2 hv
theorem wide_in {l : List (Int × Int)} (h : Lev l) (t v τ : Int) : In τ ((wideR l t v).map spS) ↔ clT t ≤ τ ∧ τ < 1099511627776 ∧ lev l τ ≥ v := by
 have rt := clT_range t
 unfold wideR
 rw [joinR_sp, (joined_fine _).2, in_cleaned]
 constructor
 ·rintro ⟨a, ha, h1, h2⟩
  obtain ⟨s, hs, rfl⟩ := List.mem_map.1 ha
  obtain ⟨j, hj, _, h3, rfl⟩ := (wideN_mem t v s l.length (Nat.le_refl _)).1 hs
  have hx := h.top _ (List.getElem_mem hj)
  have he := endL_range h j
  have hm := mx_range (a := l[j].1) (b := clT t) ⟨hx.1, by omega⟩ rt
  rw [cl_clT] at h1 h2
  have h1' : mx l[j].1 (clT t) ≤ τ := by rw [show spS ⟨mx l[j].1 (clT t), endL l j⟩ = (mx l[j].1 (clT t), endL l j) from rfl, clT_id hm] at h1; exact h1
  have h2' : τ < endL l j := by rw [show spS ⟨mx l[j].1 (clT t), endL l j⟩ = (mx l[j].1 (clT t), endL l j) from rfl, clT_id he] at h2; exact h2
  have h4 : l[j].1 ≤ τ ∧ clT t ≤ τ := by unfold mx at h1'; split at h1' <;> omega
  exact ⟨h4.2, by omega, by rw [lev_step h τ j hj h4.1 h2']; exact h3⟩
 ·rintro ⟨h1, h2, h3⟩
  obtain ⟨j, hj, h4, h5, h6⟩ := lev_cover h τ (by omega) h2
  have hx := h.top _ (List.getElem_mem hj)
  have he := endL_range h j
  have hm := mx_range (a := l[j].1) (b := clT t) ⟨hx.1, by omega⟩ rt
  refine ⟨spS ⟨mx l[j].1 (clT t), endL l j⟩, List.mem_map.2 ⟨_, (wideN_mem t v _ l.length (Nat.le_refl _)).2 ⟨j, hj, hj, by rw [← h6]; exact h3, rfl⟩, rfl⟩, ?_, ?_⟩
  ·rw [cl_clT]
   show clT (mx l[j].1 (clT t)) ≤ τ
   rw [clT_id hm]
   unfold mx; split <;> omega
  ·rw [cl_clT]
   show τ < clT (endL l j)
   rw [clT_id he]
   exact h5
theorem wide_fine (l : List (Int × Int)) (t v : Int) : Fine ((wideR l t v).map spS) := by unfold wideR; rw [joinR_sp]; exact (joined_fine _).1

/-! ### the times that are good -/
/-- a width is free from a time on for m times -/
def Good (l : List (Int × Int)) (m v τ : Int) : Prop := τ < 1099511627776 ∧ ∀ u, τ ≤ u → u < τ + m → u < 1099511627776 → lev l u ≥ v
theorem startOne_some {m : Int} {s : S25} {x : Int × Int} (hs : 0 ≤ s.f0 ∧ s.f0 < s.f1 ∧ s.f1 ≤ 1099511627776) (h : startOne m s = some x) :
  x.1 = s.f0 ∧ x.1 < x.2 ∧ x.2 ≤ s.f1 ∧ (s.f1 < 1099511627776 → x.2 = s.f1 - max m 1 + 1) ∧ (s.f1 = 1099511627776 → x.2 = s.f1) := by
 have hl : lenC s.f0 s.f1 = if s.f1 = 1099511627776 then 1099511627776 else s.f1 - s.f0 := by
  unfold lenC mn
  (repeat' split) <;> omega
 unfold startOne at h
 by_cases h1 : s.f1 < 1099511627776
 ·rw [if_neg (show ¬ s.f1 = 1099511627776 by omega)] at hl
  rw [hl, if_pos h1] at h
  split at h
  ·cases h
  ·injection h with h
   subst h
   refine ⟨rfl, ?_, ?_, fun _ => rfl, fun _ => ?_⟩ <;> dsimp only <;> omega
 ·rw [if_neg h1] at h
  injection h with h
  subst h
  exact ⟨rfl, hs.2.1, Int.le_refl _, fun h2 => absurd h2 h1, fun _ => rfl⟩
theorem fine_apart {l : List (Int × Int)} (h : Fine l) {a b : Int × Int} (ha : a ∈ l) (hb : b ∈ l) : a = b ∨ a.2 < b.1 ∨ b.2 < a.1 := by
 obtain ⟨i, hi, rfl⟩ := List.getElem_of_mem ha
 obtain ⟨j, hj, rfl⟩ := List.getElem_of_mem hb
 rcases Nat.lt_trichotomy i j with h1 | h1 | h1
 ·exact .inr (.inl (List.pairwise_iff_getElem.1 h.1 i j hi hj h1))
 ·subst h1; exact .inl rfl
 ·exact .inr (.inr (List.pairwise_iff_getElem.1 h.1 j i hj hi h1))
theorem starts_good {l : List (Int × Int)} (h : Lev l) (t m v τ : Int) : (∃ x ∈ startsR l t m v, x.1 ≤ τ ∧ τ < x.2) ↔ clT t ≤ τ ∧ Good l (max m 1) v τ := by
 have hrg := wideR_range l t v
 have hf := wide_fine l t v
 constructor
 ·rintro ⟨x, hx, h1, h2⟩
  obtain ⟨s, hs, hso⟩ := List.mem_filterMap.1 hx
  have hr := hrg s hs
  obtain ⟨a1, a2, a3, a4, a5⟩ := startOne_some hr hso
  have hin : ∀ u, s.f0 ≤ u → u < s.f1 → clT t ≤ u ∧ u < 1099511627776 ∧ lev l u ≥ v := fun u h3 h4 => (wide_in h t v u).1 ⟨spS s, List.mem_map.2 ⟨s, hs, rfl⟩, h3, h4⟩
  refine ⟨(hin τ (by omega) (by omega)).1, (hin τ (by omega) (by omega)).2.1, fun u h3 h4 h5 => (hin u (by omega) ?_).2.2⟩
  rcases Int.lt_or_le s.f1 1099511627776 with h6 | h6
  ·have := a4 h6; omega
  ·omega
 ·rintro ⟨h1, h2, h3⟩
  have hτ : In τ ((wideR l t v).map spS) := (wide_in h t v τ).2 ⟨h1, h2, h3 τ (Int.le_refl _) (by omega) h2⟩
  obtain ⟨q, hq, h4, h5⟩ := hτ
  obtain ⟨s, hs, rfl⟩ := List.mem_map.1 hq
  have hr := hrg s hs
  have h4' : s.f0 ≤ τ := h4
  have h5' : τ < s.f1 := h5
  rcases Int.lt_or_le s.f1 1099511627776 with h6 | h6
  ·have hend : τ + max m 1 ≤ s.f1 := by
    rcases Int.lt_or_le s.f1 (τ + max m 1) with h7 | h7
    ·exfalso
     have hin : In s.f1 ((wideR l t v).map spS) := (wide_in h t v s.f1).2 ⟨by omega, h6, h3 s.f1 (by omega) h7 h6⟩
     obtain ⟨q', hq', h8, h9⟩ := hin
     rcases fine_apart hf hq hq' with e | e | e
     ·subst e
      have h9' : s.f1 < s.f1 := h9
      omega
     ·have e' : s.f1 < q'.1 := e
      omega
     ·have e' : q'.2 < s.f0 := e
      omega
    ·exact h7
   have hl : lenC s.f0 s.f1 = s.f1 - s.f0 := by unfold lenC mn; (repeat' split) <;> omega
   refine ⟨(s.f0, s.f1 - max m 1 + 1), List.mem_filterMap.2 ⟨s, hs, ?_⟩, h4', by show τ < s.f1 - max m 1 + 1; omega⟩
   unfold startOne
   rw [if_pos h6, hl, if_neg (by omega)]
  ·refine ⟨(s.f0, s.f1), List.mem_filterMap.2 ⟨s, hs, ?_⟩, h4', h5'⟩
   unfold startOne
   rw [if_neg (by omega)]
/-- the spans that are told rise, do not touch, and none is empty -/
theorem starts_fine (l : List (Int × Int)) (t m v : Int) : (startsR l t m v).Pairwise (fun a b => a.2 < b.1) ∧ ∀ x ∈ startsR l t m v, x.1 < x.2 ∧ 0 ≤ x.1 ∧ x.2 ≤ 1099511627776 := by
 have hrg := wideR_range l t v
 have hf := (wide_fine l t v).1
 rw [List.pairwise_map] at hf
 refine ⟨?_, fun x hx => ?_⟩
 ·unfold startsR
  refine List.Pairwise.filterMap (startOne m) (R := fun a b => (a ∈ wideR l t v ∧ b ∈ wideR l t v) ∧ (spS a).2 < (spS b).1) ?_ ?_
  ·rintro a b ⟨⟨ha, hb⟩, hab⟩ x hx y hy
   obtain ⟨a1, a2, a3, _⟩ := startOne_some (hrg a ha) hx
   obtain ⟨b1, _⟩ := startOne_some (hrg b hb) hy
   have hab' : a.f1 < b.f0 := hab
   omega
  ·exact List.Pairwise.imp_of_mem (fun ha hb hab => ⟨⟨ha, hb⟩, hab⟩) hf
 ·obtain ⟨s, hs, hso⟩ := List.mem_filterMap.1 hx
  have hr := hrg s hs
  obtain ⟨a1, a2, a3, _⟩ := startOne_some hr hso
  omega
theorem early_spec {l : List (Int × Int)} (h : Lev l) (t m v : Int) : (earlyL l t m v < 1099511627776 → clT t ≤ earlyL l t m v ∧ Good l (max m 1) v (earlyL l t m v)) ∧ (∀ τ, clT t ≤ τ → Good l (max m 1) v τ → earlyL l t m v ≤ τ) ∧ earlyL l t m v ≤ 1099511627776 ∧ 0 ≤ earlyL l t m v := by
 have hg := starts_good h t m v
 obtain ⟨hp, hx⟩ := starts_fine l t m v
 unfold earlyL
 cases hs : startsR l t m v with
 | nil =>
  rw [hs] at hg
  refine ⟨fun hh => absurd hh (by simp), fun τ h1 h2 => ?_, Int.le_refl _, by simp⟩
  obtain ⟨x, hx, _⟩ := (hg τ).2 ⟨h1, h2⟩
  simp at hx
 | cons x r =>
  rw [hs] at hg hp hx
  have h1 := hx x List.mem_cons_self
  refine ⟨fun _ => (hg x.1).1 ⟨x, List.mem_cons_self, Int.le_refl _, h1.1⟩, fun τ h2 h3 => ?_, by dsimp only; omega, h1.2.1⟩
  obtain ⟨y, hy, h4, h5⟩ := (hg τ).2 ⟨h2, h3⟩
  rcases List.mem_cons.1 hy with rfl | hy
  ·exact h4
  ·have := (List.pairwise_cons.1 hp).1 y hy
   dsimp only
   omega
end Go.Proofs.Ytlddccmgamlccaa.Us

set_option linter.unusedVariables false
set_option linter.unusedSimpArgs false
/- Plain: what Fits, Widest and Least say, by the level at each time. -/
namespace Go.Proofs.Ytlddccmgamlccaa.Us
open Go Go.RowKit Go.Proofs.YtlddccmgamlccaaW.PrintWords

theorem addT_id {x m : Int} (hx : 0 ≤ x ∧ x ≤ 1099511627776) (hm : 0 ≤ m ∧ m ≤ 1099511627776) : addT x m = if x + m ≤ 1099511627776 then x + m else 1099511627776 := by
 unfold addT
 rw [clT_id hx, clT_id hm]
 unfold clT mx mn
 (repeat' split) <;> omega
theorem addT_ge {x m : Int} (hx : 0 ≤ x ∧ x < 1099511627776) (hm : 1 ≤ m ∧ m ≤ 1099511627776) : x < addT x m ∧ addT x m ≤ 1099511627776 := by
 rw [addT_id ⟨hx.1, by omega⟩ ⟨by omega, hm.2⟩]
 split <;> omega
theorem good_iff {l : List (Int × Int)} (h : Lev l) {x m v : Int} (hx : 0 ≤ x ∧ x < 1099511627776) (hm : 1 ≤ m ∧ m ≤ 1099511627776) : leastL l x (addT x m) ≥ v ↔ Good l m v x := by
 have ha := addT_ge hx hm
 have hi := addT_id (x := x) (m := m) ⟨hx.1, by omega⟩ ⟨by omega, hm.2⟩
 rw [least_spec h x (addT x m) v (by rw [clT_id ⟨hx.1, by omega⟩, clT_id ⟨by omega, ha.2⟩]; exact ha.1), clT_id ⟨hx.1, by omega⟩, clT_id ⟨by omega, ha.2⟩]
 constructor
 ·intro hh
  refine ⟨hx.2, fun u h1 h2 h3 => hh u h1 ?_⟩
  rw [hi]; split <;> omega
 ·rintro ⟨_, hh⟩ u h1 h2
  rw [hi] at h2
  refine hh u h1 ?_ ?_ <;> (split at h2 <;> omega)
theorem fits_good {l : List (Int × Int)} (h : Lev l) {x m v : Int} (hx : 0 ≤ x ∧ x < 1099511627776) (hm : 1 ≤ m ∧ m ≤ 1099511627776) : fitsL l x (addT x m) v = true ↔ Good l m v x := by
 have ha := addT_ge hx hm
 unfold fitsL
 rw [clT_id ⟨hx.1, by omega⟩, clT_id ⟨by omega, ha.2⟩, decide_eq_false (by omega), Bool.false_or, decide_eq_true_eq]
 exact good_iff h hx hm
theorem widest_good {l : List (Int × Int)} (h : Lev l) {x m v : Int} (hx : 0 ≤ x ∧ x < 1099511627776) (hm : 1 ≤ m ∧ m ≤ 1099511627776) (hg : Good l m v x) : widestL l x m ≥ v := by
 have ha := addT_ge hx hm
 have hmm : mx m 1 = m := by unfold mx; split <;> omega
 unfold widestL
 rw [hmm, clT_id ⟨hx.1, by omega⟩, if_neg (by omega)]
 exact (good_iff h hx hm).2 hg
theorem least_taken {l : List (Int × Int)} (h : Lev l) {x m v : Int} (hx : 0 ≤ x ∧ x < 1099511627776) (hm : 1 ≤ m ∧ m ≤ 1099511627776) (hv : 0 < v ∧ v < 1000) (hg : Good l m v x) :
  leastL (turnL (fun u => u + byT (-v)) l x (addT x m)) x (addT x m) ≥ 0 := by
 have ha := addT_ge hx hm
 have hi := addT_id (x := x) (m := m) ⟨hx.1, by omega⟩ ⟨by omega, hm.2⟩
 have hbt : byT (-v) = -v := by unfold byT mx mn; (repeat' split) <;> omega
 rw [least_spec (h.turn _ _ _) x (addT x m) 0 (by rw [clT_id ⟨hx.1, by omega⟩, clT_id ⟨by omega, ha.2⟩]; exact ha.1), clT_id ⟨hx.1, by omega⟩, clT_id ⟨by omega, ha.2⟩]
 intro u h1 h2
 have h3 : lev l u ≥ v := by
  refine hg.2 u h1 ?_ ?_ <;> (rw [hi] at h2; split at h2 <;> omega)
 have hr := lev_range h u (by omega) (by omega)
 rw [lev_turn h _ _ _ u (by omega), clT_id ⟨hx.1, by omega⟩, clT_id ⟨by omega, ha.2⟩, if_pos ⟨h1, h2⟩, hbt]
 unfold lvT mx mn
 (repeat' split) <;> omega
end Go.Proofs.Ytlddccmgamlccaa.Us
