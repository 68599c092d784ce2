/- A part of the proofs over usage and fit (UA): contracts of the program's functions and plain laws of levels. Conditions: those that each theorem states. -/
import Derived.Test.YtlddccmgamlccaaUX
import Derived.WalkSpells
import Derived.IntWalk
import Derived.Outline
import Derived.Lib.Overlaps
import Derived.Laws.Externs
import Derived.Lib.AppendZeros
import Derived.Laws.CopyRow
import Derived.Maps.AppendAt
import Derived.Laws.CopyOwn
import Derived.Deep.RegionLaw
import Derived.Shelf.Spec.SlicesInsert
import Derived.Lib.AppendZerosOnto
set_option linter.unusedVariables false
set_option linter.unusedSimpArgs false
namespace Go.Proofs.Ytlddccmgamlccaa.Us
open Go Go.Proofs Go.RowKit Go.Proofs.YtlddccmgamlccaaW.PrintWords Go.Proofs.YtlddccmgamlccaaW.PrintLast Go.Proofs.YtlddccmgamlccaaW.PrintMore
attribute [local go_sem] max2_int min2_int max_two min_two

/-- the cells of steps -/
def lvc : List (Int × Int) → List Value
 | [] => []
 | s :: r => .int .i64 s.1 :: .int .i64 s.2 :: lvc r
theorem lvc_length : ∀ l, (lvc l).length = 2 * l.length
 | [] => rfl
 | s :: r => by simp [lvc, lvc_length r]; omega
theorem lvc_append : ∀ a b, lvc (a ++ b) = lvc a ++ lvc b
 | [], b => rfl
 | s :: r, b => by simp [lvc, lvc_append r b]
theorem lvc_at : ∀ (l : List (Int × Int)) (j : Nat) (h : j < l.length), (lvc l)[j * 2]? = some (.int .i64 l[j].1) ∧ (lvc l)[j * 2 + 1]? = some (.int .i64 l[j].2)
 | s :: r, 0, h => by simp [lvc]
 | s :: r, j + 1, h => by
  have := lvc_at r j (by simp at h; omega)
  rw [show (j + 1) * 2 = j * 2 + 1 + 1 by omega]
  simp only [lvc, List.getElem?_cons_succ, List.getElem_cons_succ]
  exact this

/-- a row of steps, with room for c -/
def RowIs (w : World) (q c : Nat) (l : List (Int × Int)) : Prop :=
 ∃ sp : List Value, w.heap[q]? = some (.cells (lvc l ++ sp).toArray 42 (0, 0)) ∧ (lvc l ++ sp).length = 2 * c ∧ l.length ≤ c
/-- what a *Steps at p holds: its row lies at q -/
structure StepsIs (w : World) (p q c : Nat) (l : List (Int × Int)) : Prop where
 ptr : w.heap[p]? = some (.cells #[.slice (some ⟨q, 0, none⟩) l.length c] 79 (0, 0))
 row : RowIs w q c l
 ne : p ≠ q
 cap : c ≤ 9223372036854775807

theorem RowIs.cells {w : World} {q c : Nat} {l : List (Int × Int)} (h : RowIs w q c l) (j : Nat) (hj : j < l.length) :
  w.cell? ⟨q, j * 2, none⟩ = some (.int .i64 l[j].1) ∧ w.cell? ⟨q, j * 2 + 1, none⟩ = some (.int .i64 l[j].2) := by
 obtain ⟨sp, h1, h2, h3⟩ := h
 obtain ⟨a, b⟩ := lvc_at l j hj
 have hl := lvc_length l
 constructor
 ·refine (blk_cell h1 (j * 2)).trans ?_
  rw [List.getElem?_toArray, List.getElem?_append_left (by omega)]; exact a
 ·refine (blk_cell h1 (j * 2 + 1)).trans ?_
  rw [List.getElem?_toArray, List.getElem?_append_left (by omega)]; exact b
/-- .. with letters for a step -/
theorem RowIs.at_ {w : World} {q c : Nat} {l : List (Int × Int)} (h : RowIs w q c l) (j : Nat) (hj : j < l.length) :
  ∃ x y : Int, l[j] = (x, y) ∧ w.cell? ⟨q, j * 2, none⟩ = some (.int .i64 x) ∧ w.cell? ⟨q, j * 2 + 1, none⟩ = some (.int .i64 y) :=
 ⟨l[j].1, l[j].2, rfl, h.cells j hj⟩
theorem ret_int {k : IntKind} {a b : Int} (h : a = b) : Ending.returned (.int k a) = .returned (.int k b) := by rw [h]
theorem RowIs.below {w w1 : World} {q c : Nat} {l : List (Int × Int)} (h : RowIs w q c l) (hb : Below w.heap.size w w1) : RowIs w1 q c l := by
 obtain ⟨sp, h1, h2⟩ := h
 exact ⟨sp, blk_below h1 hb, h2⟩
theorem StepsIs.below {w w1 : World} {p q c : Nat} {l : List (Int × Int)} (h : StepsIs w p q c l) (hb : Below w.heap.size w w1) : StepsIs w1 p q c l :=
 ⟨blk_below h.ptr hb, h.row.below hb, h.ne, h.cap⟩

set_option maxRecDepth 100000 in
set_option maxHeartbeats 1000000 in
theorem none_nil (w : World) : Calls Try.prog 40 #[.pointer none] w fun ev w' => ev = .returned (.bool true) ∧ w' = w := by
 go_enter Try.func40, Try.ntmps40
 go_wp2
 go_ret
 exact ⟨rfl, rfl⟩

set_option maxRecDepth 100000 in
set_option maxHeartbeats 1000000 in
theorem none_calls (p q c : Nat) (l : List (Int × Int)) (w : World) (h : StepsIs w p q c l) (h0 : l ≠ []) : Calls Try.prog 40 #[.pointer (some ⟨p, 0, none⟩)] w fun ev w' => ev = .returned (.bool false) ∧ w' = w := by
 have hc : w.cell? ⟨p, 0, none⟩ = some (.slice (some ⟨q, 0, none⟩) l.length c) := (blk_cell h.ptr 0).trans rfl
 have hl : ((l.length : Int) == 0) = false := by
  have : l.length ≠ 0 := fun e => h0 (List.eq_nil_of_length_eq_zero e)
  simp; exact h0
 clear h h0
 go_enter Try.func40, Try.ntmps40
 go_wp2
 go_ret
 exact ⟨rfl, rfl⟩

/-- how one time stands to another: below, equal, above -/
def cmpT (a t : Int) : Int := if (-1) < (if 1 < a - t then 1 else a - t) then (if 1 < a - t then 1 else a - t) else -1
theorem cmpT_lt (a t : Int) : cmpT a t < 0 ↔ a < t := by unfold cmpT; split <;> split <;> omega
theorem cmpT_eq (a t : Int) : cmpT a t = 0 ↔ a = t := by unfold cmpT; split <;> split <;> omega

set_option maxRecDepth 100000 in
set_option maxHeartbeats 1000000 in
theorem place1_calls (a v t : Int) (w : World) (ha : 0 ≤ a ∧ a < 4611686018427387904) (ht : 0 ≤ t ∧ t < 4611686018427387904) :
  Calls Try.prog 75 #[.agg #[.int .i64 a, .int .i64 v], .int .i64 t] w fun ev w' => ev = .returned (.int .i64 (cmpT a t)) ∧ Below w.heap.size w w' := by
 obtain ⟨i, hi⟩ : ∃ i : Int, (if 1 < a - t then 1 else a - t) = i := ⟨_, rfl⟩
 obtain ⟨j, hj⟩ : ∃ j : Int, (if (-1) < i then i else -1) = j := ⟨_, rfl⟩
 have e : cmpT a t = j := by unfold cmpT; rw [hi, hj]
 rw [e]
 clear e
 go_enter Try.func75, Try.ntmps75
 go_wp2
 go_ret
 exact ⟨rfl, (Below.refl _ w).alloc (Nat.le_refl _) _⟩
end Go.Proofs.Ytlddccmgamlccaa.Us

set_option linter.unusedVariables false
set_option linter.unusedSimpArgs false
namespace Go.Proofs.Ytlddccmgamlccaa.Us
open Go Go.Proofs Go.RowKit Go.Proofs.YtlddccmgamlccaaW.PrintWords Go.Proofs.YtlddccmgamlccaaW.PrintLast Go.Proofs.YtlddccmgamlccaaW.PrintMore

/-- times rise -/
def Rise (l : List (Int × Int)) : Prop := l.Pairwise fun a b => a.1 < b.1
/-- times may be held against one another -/
def Tame (l : List (Int × Int)) : Prop := ∀ s ∈ l, 0 ≤ s.1 ∧ s.1 < 4611686018427387904
/-- how many steps begin ahead of a time -/
def lb (l : List (Int × Int)) (t : Int) : Nat := (l.takeWhile fun s => decide (s.1 < t)).length

theorem lb_le (l : List (Int × Int)) (t : Int) : lb l t ≤ l.length := by
 unfold lb; have := (List.takeWhile_prefix (l := l) fun s => decide (s.1 < t)).length_le; exact this
theorem lb_eq : ∀ (l : List (Int × Int)) (t : Int) (n : Nat), n ≤ l.length → (∀ k, (h : k < l.length) → k < n → l[k].1 < t) → (∀ k, (h : k < l.length) → n ≤ k → t ≤ l[k].1) → lb l t = n
 | [], t, n, hn, _, _ => by simp at hn; simp [lb, hn]
 | s :: r, t, n, hn, h1, h2 => by
  unfold lb
  cases n with
  | zero =>
   have := h2 0 (by simp) (Nat.le_refl _)
   rw [List.takeWhile_cons_of_neg (by simpa using this)]; rfl
  | succ n =>
   have := h1 0 (by simp) (by omega)
   rw [List.takeWhile_cons_of_pos (by simpa using this), List.length_cons]
   congr 1
   exact lb_eq r t n (by simpa using hn) (fun k hk hkn => by have := h1 (k + 1) (by simp; omega) (by omega); rwa [List.getElem_cons_succ] at this) (fun k hk hkn => by have := h2 (k + 1) (by simp; omega) (by omega); rwa [List.getElem_cons_succ] at this)
theorem rise_at {l : List (Int × Int)} (h : Rise l) (i j : Nat) (hi : i < l.length) (hj : j < l.length) (hij : i < j) : l[i].1 < l[j].1 := List.pairwise_iff_getElem.1 h i j hi hj hij

def natV : Value → Nat
 | .int _ i => i.toNat
 | _ => 0

set_option maxRecDepth 100000 in
set_option maxHeartbeats 4000000 in
theorem bsf_calls (q c : Nat) (l : List (Int × Int)) (t : Int) (w : World) (hR : RowIs w q c l) (hs : Rise l) (hT : Tame l) (ht : 0 ≤ t ∧ t < 4611686018427387904) (hn : l.length < 4611686018427387904) :
  Calls Try.prog 74 #[.slice (some ⟨q, 0, none⟩) l.length c, .int .i64 t, .func (.func 75) #[] #[]] w fun ev w' =>
   ev = .returned (.tuple #[.int .i64 (lb l t : Int), .bool (decide ((l[lb l t]?).map (·.1) = some t))]) ∧ Below w.heap.size w w' := by
 go_enter Try.func74, Try.ntmps74
 go_wp2
 go_loopw [9, 10] (fun v9 v10 wr => ∃ a b : Nat, v9 = .int .i64 (a : Int) ∧ v10 = .int .i64 (b : Int) ∧ a ≤ b ∧ b ≤ l.length ∧ (∀ k, (h : k < l.length) → k < a → l[k].1 < t) ∧ (∀ k, (h : k < l.length) → b ≤ k → t ≤ l[k].1) ∧ Below w.heap.size w wr)
  (fun v9 v10 wr => natV v10 - natV v9)
 case atStart => exact ⟨0, l.length, rfl, rfl, by omega, by omega, fun k _ h => by omega, fun k h h' => by omega, Below.refl _ w⟩
 case round =>
  obtain ⟨a, b, rfl, rfl, hab, hbl, h1, h2, hB⟩ := hrel
  by_cases hlt : a < b
  ·have e1 : decide ((a : Int) < (b : Int)) = true := by simp; omega
   obtain ⟨h, hh⟩ : ∃ h : Nat, (a + b) / 2 = h := ⟨_, rfl⟩
   obtain ⟨x, y, hxy, g1, g2⟩ := (hR.below hB).at_ h (by omega)
   have hx : 0 ≤ x ∧ x < 4611686018427387904 := by have := hT _ (List.getElem_mem (show h < l.length by omega)); rw [hxy] at this; exact this
   have hi : ((a : Int) + (b : Int)) / 2 = (h : Int) := by omega
   by_cases hc : x < t
   ·have e2 : decide (cmpT x t < 0) = true := by simp; exact (cmpT_lt x t).2 hc
    have K1 : ∀ k, (hk : k < l.length) → k < h + 1 → l[k].1 < t := fun k hk hk2 => by
     rcases Nat.lt_or_ge k h with hlt' | hge
     ·have := rise_at hs k h hk (by omega) hlt'; rw [hxy] at this; exact Int.lt_trans this hc
     ·obtain rfl : k = h := by omega
      rw [hxy]; exact hc
    have H1 := Aside0.mk K1
    have H2 := Aside0.mk h2
    have HH := Aside0.mk hh
    have HC := Aside0.mk hc
    clear h1 h2 K1 hxy hh hc
    go_wp2_with (go_at_call 75; refine (place1_calls x y t _ hx ht).mono ?_; rintro ev w1 ⟨rfl, hb1⟩)
    go_roundw
    case rel => exact ⟨h + 1, b, by go_num, rfl, by have := HH.out; omega, hbl, H1.out, H2.out, below_step hB hb1⟩
    case measure => have := HH.out; simp [natV]; omega
   ·have e2 : decide (cmpT x t < 0) = false := by
     have := cmpT_lt x t
     simp; omega
    have K2 : ∀ k, (hk : k < l.length) → h ≤ k → t ≤ l[k].1 := fun k hk hk2 => by
     rcases Nat.lt_or_ge h k with hlt' | hge
     ·have := rise_at hs h k (by omega) hk hlt'; rw [hxy] at this; have : x < l[k].1 := this; omega
     ·obtain rfl : k = h := by omega
      rw [hxy]; show t ≤ x; omega
    have H1 := Aside0.mk h1
    have H2 := Aside0.mk K2
    have HH := Aside0.mk hh
    clear h1 h2 K2 hxy hh hc
    go_wp2_with (go_at_call 75; refine (place1_calls x y t _ hx ht).mono ?_; rintro ev w1 ⟨rfl, hb1⟩)
    go_roundw
    case rel => exact ⟨a, h, rfl, rfl, by have := HH.out; omega, by have := HH.out; omega, H1.out, H2.out, below_step hB hb1⟩
    case measure => have := HH.out; simp [natV]; omega
  ·obtain rfl : b = a := by omega
   have e1 : decide ((b : Int) < (b : Int)) = false := by simp
   have hlb : lb l t = b := lb_eq l t b hbl h1 h2
   have HL := Aside0.mk hlb
   clear h1 h2 hlb hlt
   by_cases hbn : b < l.length
   ·obtain ⟨x, y, hxy, g1, g2⟩ := (hR.below hB).at_ b hbn
    have hx : 0 ≤ x ∧ x < 4611686018427387904 := by have := hT _ (List.getElem_mem hbn); rw [hxy] at this; exact this
    have e3 : decide ((b : Int) < (l.length : Int)) = true := by simp; omega
    have e5 : (l[b]?).map (·.1) = some x := by rw [List.getElem?_eq_getElem hbn, hxy]; rfl
    have HE := Aside0.mk e5
    clear hxy e5
    by_cases hc : x = t
    ·have e4 : (cmpT x t == 0) = true := by simp; exact (cmpT_eq x t).2 hc
     have HC := Aside0.mk hc
     clear hc
     go_wp2_with (go_at_call 75; refine (place1_calls x y t _ hx ht).mono ?_; rintro ev w1 ⟨rfl, hb1⟩)
     go_ret2
     exact ⟨by rw [HL.out, HE.out]; simp [HC.out], below_step hB hb1⟩
    ·have e4 : (cmpT x t == 0) = false := by have := cmpT_eq x t; simp; omega
     have HC := Aside0.mk hc
     clear hc
     go_wp2_with (go_at_call 75; refine (place1_calls x y t _ hx ht).mono ?_; rintro ev w1 ⟨rfl, hb1⟩)
     go_ret2
     exact ⟨by rw [HL.out, HE.out]; simp [HC.out], below_step hB hb1⟩
   ·have e3 : decide ((b : Int) < (l.length : Int)) = false := by simp; omega
    have e5 : l[b]? = none := List.getElem?_eq_none (by omega)
    have HE := Aside0.mk e5
    clear e5
    go_wp2
    go_ret2
    exact ⟨by rw [HL.out, HE.out]; simp, hB⟩
end Go.Proofs.Ytlddccmgamlccaa.Us

set_option linter.unusedVariables false
set_option linter.unusedSimpArgs false
namespace Go.Proofs.Ytlddccmgamlccaa.Us
open Go Go.Proofs Go.RowKit Go.Proofs.YtlddccmgamlccaaW.PrintWords Go.Proofs.YtlddccmgamlccaaW.PrintLast Go.Proofs.YtlddccmgamlccaaW.PrintMore

theorem lb_spec {l : List (Int × Int)} (hs : Rise l) (t : Int) : (∀ k, (h : k < l.length) → k < lb l t → l[k].1 < t) ∧ (∀ k, (h : k < l.length) → lb l t ≤ k → t ≤ l[k].1) := by
 induction l with
 | nil => exact ⟨fun k h => by simp at h, fun k h => by simp at h⟩
 | cons s r ih =>
  obtain ⟨hsr, hr⟩ := List.pairwise_cons.1 hs
  obtain ⟨i1, i2⟩ := ih hr
  by_cases h : s.1 < t
  ·have e : lb (s :: r) t = lb r t + 1 := by unfold lb; rw [List.takeWhile_cons_of_pos (by simpa using h), List.length_cons]
   rw [e]
   constructor
   ·intro k hk hkl
    cases k with
    | zero => exact h
    | succ k => rw [List.getElem_cons_succ]; exact i1 k (by simp at hk; omega) (by omega)
   ·intro k hk hkl
    cases k with
    | zero => omega
    | succ k => rw [List.getElem_cons_succ]; exact i2 k (by simp at hk; omega) (by omega)
  ·have e : lb (s :: r) t = 0 := by unfold lb; rw [List.takeWhile_cons_of_neg (by simpa using h)]; rfl
   rw [e]
   refine ⟨fun k hk hkl => by omega, fun k hk _ => ?_⟩
   cases k with
   | zero => show t ≤ s.1; omega
   | succ k =>
    rw [List.getElem_cons_succ]
    have := hsr _ (List.getElem_mem (show k < r.length by simp at hk; omega))
    omega

/-- the step that a time is in -/
def pl (l : List (Int × Int)) (t : Int) : Nat := lb l (t + 1) - 1
theorem lb_next {l : List (Int × Int)} (hs : Rise l) (t : Int) : lb l (t + 1) = if (l[lb l t]?).map (·.1) = some t then lb l t + 1 else lb l t := by
 obtain ⟨h1, h2⟩ := lb_spec hs t
 have hle := lb_le l t
 by_cases hf : (l[lb l t]?).map (·.1) = some t
 ·rw [if_pos hf]
  have hlt : lb l t < l.length := by
   rcases Nat.lt_or_ge (lb l t) l.length with h | h
   ·exact h
   ·rw [List.getElem?_eq_none h] at hf; simp at hf
  have he : l[lb l t].1 = t := by rw [List.getElem?_eq_getElem hlt] at hf; simpa using hf
  refine lb_eq l (t + 1) _ (by omega) (fun k hk hkl => ?_) (fun k hk hkl => ?_)
  ·rcases Nat.lt_or_ge k (lb l t) with h | h
   ·have := h1 k hk h; omega
   ·obtain rfl : k = lb l t := by omega
    omega
  ·have := rise_at hs (lb l t) k hlt hk (by omega); omega
 ·rw [if_neg hf]
  refine lb_eq l (t + 1) _ hle (fun k hk hkl => by have := h1 k hk hkl; omega) (fun k hk hkl => ?_)
  have h3 := h2 k hk hkl
  rcases Nat.lt_or_ge (lb l t) k with h | h
  ·have := rise_at hs (lb l t) k (by omega) hk h
   have := h2 (lb l t) (by omega) (Nat.le_refl _)
   omega
  ·obtain rfl : k = lb l t := by omega
   have : l[lb l t].1 ≠ t := fun e => hf (by rw [List.getElem?_eq_getElem hk]; simpa using e)
   omega
theorem lb_pos {l : List (Int × Int)} (t : Int) (s : Int × Int) (r : List (Int × Int)) (hl : l = s :: r) (h : s.1 < t) : 0 < lb l t := by
 subst hl
 unfold lb; rw [List.takeWhile_cons_of_pos (by simpa using h)]; simp
theorem pl_lt {l : List (Int × Int)} (t : Int) (h0 : l ≠ []) : pl l t < l.length := by
 have := lb_le l (t + 1)
 have : 0 < l.length := List.length_pos_iff.2 h0
 unfold pl; omega
/-- what the step that a time is in is: it begins no later, and the next one does. -/
theorem pl_spec {l : List (Int × Int)} (hs : Rise l) (t : Int) (s : Int × Int) (r : List (Int × Int)) (hl : l = s :: r) (h : s.1 ≤ t) :
  (∀ (k : Nat) (hk : k < l.length), k ≤ pl l t → l[k].1 ≤ t) ∧ (∀ (k : Nat) (hk : k < l.length), pl l t < k → t < l[k].1) := by
 obtain ⟨h1, h2⟩ := lb_spec hs (t + 1)
 have hp := lb_pos (t + 1) s r hl (by omega)
 refine ⟨fun k hk hkl => ?_, fun k hk hkl => ?_⟩
 ·have := h1 k hk (by unfold pl at hkl; omega); omega
 ·have := h2 k hk (by unfold pl at hkl; omega); omega

set_option maxRecDepth 100000 in
set_option maxHeartbeats 4000000 in
theorem place_calls (p q c : Nat) (l : List (Int × Int)) (t : Int) (w : World) (hS : StepsIs w p q c l) (hs : Rise l) (hT : Tame l) (ht : 0 ≤ t ∧ t < 4611686018427387904) (hn : l.length < 4611686018427387904)
  (s0 : Int × Int) (r0 : List (Int × Int)) (hl : l = s0 :: r0) (h0 : s0.1 ≤ t) :
  Calls Try.prog 61 #[.pointer (some ⟨p, 0, none⟩), .int .i64 t] w fun ev w' => ev = .returned (.int .i64 (pl l t : Int)) ∧ Below w.heap.size w w' := by
 have hc : w.cell? ⟨p, 0, none⟩ = some (.slice (some ⟨q, 0, none⟩) l.length c) := (blk_cell hS.ptr 0).trans rfl
 have hx := Aside0.mk (lb_next hs t)
 have hp := Aside0.mk (lb_pos (t + 1) s0 r0 hl (by omega))
 have hle := Aside0.mk (lb_le l t)
 have hR := hS.row
 clear hS hl h0
 obtain ⟨n, hnn⟩ : ∃ n, lb l t = n := ⟨_, rfl⟩
 obtain ⟨f, hf⟩ : ∃ f : Bool, decide ((l[lb l t]?).map (·.1) = some t) = f := ⟨_, rfl⟩
 have HN := Aside0.mk hnn
 have HF := Aside0.mk hf
 have hb := bsf_calls q c l t w hR hs hT ht hn
 rw [hf, hnn] at hb
 clear hf hnn
 have hn0 : (n : Int) < 4611686018427387904 := by have := hle.out; rw [HN.out] at this; omega
 cases f with
 | true =>
  go_enter Try.func61, Try.ntmps61
  go_wp2_with (go_at_call 74; refine hb.mono ?_; rintro ev w1 ⟨rfl, hb1⟩)
  go_ret
  refine ⟨ret_int ?_, hb1⟩
  have h1 := of_decide_eq_true HF.out
  have h2 := hx.out
  rw [if_pos h1, HN.out] at h2
  unfold pl; rw [h2]; omega
 | false =>
  go_enter Try.func61, Try.ntmps61
  go_wp2_with (go_at_call 74; refine hb.mono ?_; rintro ev w1 ⟨rfl, hb1⟩)
  go_ret
  refine ⟨ret_int ?_, hb1⟩
  have h1 := of_decide_eq_false HF.out
  have h2 := hx.out
  rw [if_neg h1, HN.out] at h2
  have h3 := hp.out
  rw [h2] at h3
  unfold pl; rw [h2]; omega
end Go.Proofs.Ytlddccmgamlccaa.Us

set_option linter.unusedVariables false
set_option linter.unusedSimpArgs false
namespace Go.Proofs.Ytlddccmgamlccaa.Us
open Go Go.Proofs Go.RowKit Go.Lib Go.Proofs.YtlddccmgamlccaaW.PrintWords Go.Proofs.YtlddccmgamlccaaW.PrintLast Go.Proofs.YtlddccmgamlccaaW.PrintMore

theorem infoStep : (Try.prog.info? 42).map (fun i => (i.zero, i.size, i.bytes)) = some (some (.agg #[.int .i64 0, .int .i64 0]), 2, 16) := by kernel_rfl
theorem lvc_one : ∀ l, ∀ u ∈ lvc l, u.oneCell' = true
 | [], u, h => by cases h
 | s :: r, u, h => by
  simp only [lvc, List.mem_cons] at h
  rcases h with rfl | rfl | h
  ·rfl
  ·rfl
  ·exact lvc_one r u h

theorem RowIs.own {w : World} {q c : Nat} {l : List (Int × Int)} (h : RowIs w q c l) (hc : c ≤ 9223372036854775807) : w.ownsRow q 42 2 (.slice (some ⟨q, 0, none⟩) l.length c) l.length (lvc l) := by
 obtain ⟨sp, h1, h2, h3⟩ := h
 have hl := lvc_length l
 refine ⟨by omega, .inr ⟨q, c, _, rfl, Nat.le_refl _, h1, h3, by unfold maxLen; omega, by simp only [List.size_toArray]; omega, ?_⟩⟩
 show (lvc l ++ sp).take _ = _
 rw [List.take_append_of_le_length (by omega), List.take_of_length_le (by omega)]
theorem own_row {w : World} {base n : Nat} {v : Value} {l : List (Int × Int)} (h : w.ownsRow base 42 2 v n (lvc l)) (hn : 0 < n) : l.length = n ∧ ∃ g c, v = .slice (some ⟨g, 0, none⟩) n c ∧ RowIs w g c l ∧ base ≤ g ∧ c ≤ 9223372036854775807 := by
 have hl := lvc_length l
 have h1 := h.1
 refine ⟨by omega, ?_⟩
 rcases h.2 with ⟨_, h0⟩ | ⟨g, cap, cur, rfl, hb, hg, hnc, hm, hs, ht⟩
 ·omega
 ·have hm' : cap ≤ 9223372036854775807 := by unfold maxLen at hm; omega
  refine ⟨g, cap, rfl, ⟨cur.toList.drop (n * 2), ?_, ?_, by omega⟩, hb, hm'⟩
  ·rw [hg]
   congr 2
   rw [← ht, List.take_append_drop]
  ·rw [← ht, List.take_append_drop, Array.length_toList, hs]; omega

/-- what Insert leaves: a row with the new step, in the old place or a new one -/
def Inserted (w : World) (q i : Nat) (l : List (Int × Int)) (x y : Int) (ev : Ending) (w' : World) : Prop :=
 ∃ q' c', ev = .returned (.slice (some ⟨q', 0, none⟩) (l.length + 1) c') ∧ RowIs w' q' c' (l.take i ++ (x, y) :: l.drop i) ∧ c' ≤ 9223372036854775807 ∧ (q' = q ∨ w.heap.size ≤ q') ∧ w.grownBy w' (some q)

set_option maxRecDepth 100000 in
set_option maxHeartbeats 4000000 in
theorem insert_end (q c vb : Nat) (l : List (Int × Int)) (x y : Int) (w : World) (hR : RowIs w q c l) (hc : c ≤ 9223372036854775807) (hv : w.heap[vb]? = some (.cells #[.int .i64 x, .int .i64 y] 42 (0, 0))) (hn : l.length < 1099511627776) :
  Calls Try.prog 76 #[.slice (some ⟨q, 0, none⟩) l.length c, .int .i64 (l.length : Int), .slice (some ⟨vb, 0, none⟩) 1 1] w (Inserted w q l.length l x y) := by
 obtain ⟨i0, hi0, hz0, hzs, hzb⟩ := info_parts infoStep
 have hown := hR.own hc
 have hnc : l.length ≤ c := hR.choose_spec.2.2
 have hu := Try.underlying39
 obtain ⟨n, hnn⟩ : ∃ n, l.length = n := ⟨_, rfl⟩
 have HN := Aside0.mk hnn
 rw [hnn] at hown hn hnc ⊢
 have hws : q < w.heap.size := by obtain ⟨_, h1, _⟩ := hR; exact blk_lt h1
 have hnews : ∀ j u, [Value.int .i64 x, Value.int .i64 y][j]? = some u → w.cell? ((⟨vb, 0, none⟩ : Addr).add j) = some u := by
  intro j u hj
  have : (⟨vb, 0, none⟩ : Addr).add j = ⟨vb, j, none⟩ := add_plain vb j
  rw [this]
  refine (blk_cell hv j).trans ?_
  match j, hj with
  | 0, hj => exact hj
  | 1, hj => exact hj
  | j + 2, hj => simp at hj
 have hW : lvc l ++ [.int .i64 x, .int .i64 y] = lvc (l ++ [(x, y)]) := by rw [lvc_append]; rfl
 have HW := Aside0.mk hW
 clear hW hv hnn hR
 go_enter Try.func76, Try.ntmps76
 go_wp2_with (at_builtin; refine wpList_append_own_at _ rfl _ _ 39 rfl q 42 i0 (.agg #[.int .i64 0, .int .i64 0]) 2 16 Try.underlying39 hi0 hz0 hzs hzb rfl (by decide) _ n (lvc l) rfl hown ⟨vb, 0, none⟩ 1 1 [.int .i64 x, .int .i64 y] rfl rfl hnews (by simp [Value.oneCell']) (by unfold maxLen; omega) (by omega) (by omega) ?_; intro v' w1 hown' hgrow hnil hat)
 all_goals
  go_ret
  rw [HW.out] at hown'
  obtain ⟨hl1, g, c', rfl, hR', hq, hc'⟩ := own_row hown' (by omega)
  refine ⟨g, c', by first | (rw [HN.out]; done) | (rw [HN.out]; rfl) | (simp [HN.out]; done) | (simp [HN.out]; rfl), ?_, hc', ?_, hgrow⟩
  ·rw [← HN.out, List.take_of_length_le (Nat.le_refl _), List.drop_of_length_le (Nat.le_refl _)]; exact hR'
  ·rcases hat with h | h
   ·have h' : some g = some q := h
    exact .inl (Option.some.inj h')
   ·have h' : some g = some w.heap.size := h
    have := Option.some.inj h'
    exact .inr (by omega)
end Go.Proofs.Ytlddccmgamlccaa.Us

set_option linter.unusedVariables false
set_option linter.unusedSimpArgs false
namespace Go.Proofs.Ytlddccmgamlccaa.Us
open Go Go.Proofs Go.RowKit Go.Lib Go.Proofs.YtlddccmgamlccaaW.PrintWords Go.Proofs.YtlddccmgamlccaaW.PrintLast Go.Proofs.YtlddccmgamlccaaW.PrintMore

/-- copy of elements of two cells each into a row that is known whole -/
theorem run_copy_row2 {P : Program} (w : World) (dT sT ty elem : TypeId) (g o dLen dCap : Nat) (a : Addr) (sLen sCap m : Nat) (cur : Array Value) (t : TypeId) (cs : List Value)
  (hu : P.underlying dT = some (.slice elem)) (hs : (P.info? elem).map (·.size) = some 2)
  (hg : w.heap[g]? = some (.cells cur t (0, 0))) (hm : m = Nat.min sLen dLen) (hn : cs.length = m * 2)
  (hsrc : ∀ j v, cs[j]? = some v → w.cell? (a.add j) = some v) (hfit : o + cs.length ≤ cur.size) (h1 : ∀ v ∈ cs, v.oneCell' = true) :
  (Builtin.copy_ #[dT, sT] ty #[.slice (some ⟨g, o, none⟩) dLen dCap, .slice (some a) sLen sCap]).run P w =
   .ok (goInt m) (w.setRow g (cur.toList.take o ++ cs ++ cur.toList.drop (o + cs.length)).toArray) := by
 have hl := run_loadCells_list (P := P) w a cs hsrc
 have hst := run_storeCells_at P g o t cs 0 cur w hg (by simpa using hfit) h1
 rw [hn] at hl
 cases hq : P.info? elem with
 | none => simp [hq] at hs
 | some i =>
  have hi : i.size = 2 := by simpa [hq] using hs
  simp [Builtin.copy_, run_underlying hu, Builtin.lenOf, Builtin.firstCells, sizeOf, typeInfo, hq, hi, ← hm, hl, hst, hn]

theorem lvc_take : ∀ (l : List (Int × Int)) (i : Nat), lvc (l.take i) = (lvc l).take (i * 2)
 | [], i => by simp [lvc]
 | s :: r, 0 => by simp [lvc]
 | s :: r, i + 1 => by rw [List.take_succ_cons, lvc, lvc_take r i, show (i + 1) * 2 = i * 2 + 1 + 1 by omega, lvc]; rfl
theorem lvc_drop : ∀ (l : List (Int × Int)) (i : Nat), lvc (l.drop i) = (lvc l).drop (i * 2)
 | [], i => by simp [lvc]
 | s :: r, 0 => by simp
 | s :: r, i + 1 => by rw [List.drop_succ_cons, lvc_drop r i, show (i + 1) * 2 = i * 2 + 1 + 1 by omega, lvc]; rfl

/-- two splices into a row: the tail one further, then the new step -/
theorem shifted (L S : List Value) (V : List Value) (i : Nat) (hi : i ≤ L.length) (hV : V.length = 2) (hS : 2 ≤ S.length) :
  (((L ++ S).take (i + 2) ++ L.drop i ++ (L ++ S).drop (i + 2 + (L.drop i).length)).take i ++ V ++ (((L ++ S).take (i + 2) ++ L.drop i ++ (L ++ S).drop (i + 2 + (L.drop i).length)).drop (i + V.length))) =
   L.take i ++ V ++ L.drop i ++ S.drop 2 := by
 have e1 : ((L ++ S).take (i + 2)).length = i + 2 := by rw [List.length_take, List.length_append]; omega
 have e2 : i + 2 + (L.drop i).length = L.length + 2 := by rw [List.length_drop]; omega
 rw [e2, hV]
 have e3 : (L ++ S).drop (L.length + 2) = S.drop 2 := by rw [List.drop_append]; simp
 rw [e3]
 have e4 : ((L ++ S).take (i + 2) ++ L.drop i ++ S.drop 2).take i = L.take i := by
  rw [List.append_assoc, List.take_append_of_le_length (by omega), List.take_take, Nat.min_eq_left (by omega), List.take_append_of_le_length hi]
 have e5 : ((L ++ S).take (i + 2) ++ L.drop i ++ S.drop 2).drop (i + 2) = L.drop i ++ S.drop 2 := by
  rw [List.append_assoc, List.drop_append, e1, List.drop_of_length_le (by omega)]; simp
 rw [e4, e5, ← List.append_assoc]

theorem szStep : (Try.prog.info? 42).map (·.size) = some 2 := by kernel_rfl
theorem szofStep : ∀ w, (sizeOf 42).run Try.prog w = .ok 2 w := fun w => by
 obtain ⟨i0, hi0, hz0, hzs, hzb⟩ := info_parts infoStep
 simp [sizeOf, typeInfo, hi0, hzs]

set_option maxRecDepth 100000 in
set_option maxHeartbeats 8000000 in
theorem insert_shift (q c vb i : Nat) (l : List (Int × Int)) (x y : Int) (w : World) (hR : RowIs w q c l) (hc : c ≤ 9223372036854775807) (hv : w.heap[vb]? = some (.cells #[.int .i64 x, .int .i64 y] 42 (0, 0))) (hvq : vb ≠ q)
  (hi : i < l.length) (hroom : l.length + 1 ≤ c) (hn : l.length < 1099511627776) :
  Calls Try.prog 76 #[.slice (some ⟨q, 0, none⟩) l.length c, .int .i64 (i : Int), .slice (some ⟨vb, 0, none⟩) 1 1] w (Inserted w q i l x y) := by
 obtain ⟨sp, h1, h2, h3⟩ := hR
 have hu := Try.underlying39
 have hll := lvc_length l
 have hws : q < w.heap.size := blk_lt h1
 obtain ⟨n, hnn⟩ : ∃ n, l.length = n := ⟨_, rfl⟩
 have HN := Aside0.mk hnn
 rw [hnn] at hi hroom hn h3 hll ⊢
 have hspl : 2 ≤ sp.length := by rw [List.length_append] at h2; omega
 have hcz : 2 * c = (lvc l ++ sp).length := h2.symm
 have hov : ∀ lb cb, (callFunc 82 #[.slice (some ⟨vb, 0, none⟩) 1 1, .slice (some ⟨q, (i + 1) * 2, none⟩) lb cb]).run Try.prog w = .ok (.value (.bool false)) w := fun lb cb => by
  rw [run_callFunc_extern Try.func82 (by kernel_rfl) (by kernel_rfl) (by kernel_rfl) (e := Extern.SlicesOverlaps.overlaps #[39, 39] #[4]) (by kernel_rfl),
   Lib.run_overlaps_apart w 39 4 42 Try.underlying39 2 szofStep ⟨vb, 0, none⟩ ⟨q, (i + 1) * 2, none⟩ 1 1 lb cb hvq 42 42 2 (2 * c) (by simp [World.shape?, hv]) (by simp only [World.shape?, h1]; rw [List.size_toArray, h2]) (by omega) (blk_frozen hv 0) (blk_frozen hv 2)]
  rfl
 have hdl : (lvc l).drop (i * 2) = lvc (l.drop i) := (lvc_drop l i).symm
 have hdn : ((lvc l).drop (i * 2)).length = (n - i) * 2 := by rw [List.length_drop, hll]; omega
 obtain ⟨ROW1, hROW1⟩ : ∃ R, (lvc l ++ sp).take (i * 2 + 2) ++ (lvc l).drop (i * 2) ++ (lvc l ++ sp).drop (i * 2 + 2 + ((lvc l).drop (i * 2)).length) = R := ⟨_, rfl⟩
 have hrl : ROW1.length = 2 * c := by
  rw [← hROW1, ← h2]; simp only [List.length_append, List.length_take, List.length_drop]; omega
 have hcp1 : ∀ (W : World), (∀ x, W.cell? x = w.cell? x) → W.heap[q]? = w.heap[q]? → ∀ ty dl dc sc, dl = n - i → (Builtin.copy_ #[39, 39] ty #[.slice (some ⟨q, (i + 1) * 2, none⟩) dl dc, .slice (some ⟨q, i * 2, none⟩) (n + 1 - i) sc]).run Try.prog W = .ok (goInt ((n - i : Nat) : Int)) (W.setRow q ROW1.toArray) := fun W hWc hWq ty dl dc sc hdl2 => by
  have := run_copy_row2 (P := Try.prog) W 39 39 ty 42 q ((i + 1) * 2) dl dc ⟨q, i * 2, none⟩ (n + 1 - i) sc (n - i) (lvc l ++ sp).toArray 42 ((lvc l).drop (i * 2)) Try.underlying39 szStep
   (hWq.trans h1) (by subst hdl2; simp only [Nat.min_def]; split <;> omega) hdn
   (fun j v hj => by
    rw [List.getElem?_drop] at hj
    have hjl : i * 2 + j < (lvc l).length := (List.getElem?_eq_some_iff.1 hj).1
    have e : (⟨q, i * 2, none⟩ : Addr).add j = ⟨q, i * 2 + j, none⟩ := by unfold Addr.add; split <;> simp_all
    rw [e, hWc]
    refine (blk_cell h1 (i * 2 + j)).trans ?_
    rw [List.getElem?_toArray, List.getElem?_append_left hjl]; exact hj)
   (by rw [List.size_toArray, hdn, h2]; omega) (fun v hv => lvc_one l v (List.mem_of_mem_drop hv))
  have e : ((lvc l ++ sp).toArray.toList.take ((i + 1) * 2) ++ (lvc l).drop (i * 2) ++ (lvc l ++ sp).toArray.toList.drop ((i + 1) * 2 + ((lvc l).drop (i * 2)).length)) = ROW1 := by
   rw [← hROW1, show (i + 1) * 2 = i * 2 + 2 by omega]
  rw [this, e]
 obtain ⟨ROW2, hROW2⟩ : ∃ R, ROW1.take (i * 2) ++ [Value.int .i64 x, .int .i64 y] ++ ROW1.drop (i * 2 + 2) = R := ⟨_, rfl⟩
 have hfin : ROW2 = lvc (l.take i ++ (x, y) :: l.drop i) ++ sp.drop 2 := by
  have := shifted (lvc l) sp [Value.int .i64 x, .int .i64 y] (i * 2) (by omega) rfl hspl
  rw [hROW1] at this
  rw [← hROW2]
  rw [show i * 2 + 2 = i * 2 + [Value.int .i64 x, Value.int .i64 y].length from rfl, this, lvc_append, lvc, lvc_take, lvc_drop]
  simp
 have hcp2 : ∀ (W : World), W.heap[q]? = some (.cells ROW1.toArray 42 (0, 0)) → W.heap[vb]? = some (.cells #[.int .i64 x, .int .i64 y] 42 (0, 0)) → ∀ ty dc, (Builtin.copy_ #[39, 39] ty #[.slice (some ⟨q, i * 2, none⟩) (n + 1 - i) dc, .slice (some ⟨vb, 0, none⟩) 1 1]).run Try.prog W = .ok (goInt ((1 : Nat) : Int)) (W.setRow q ROW2.toArray) := fun W hWq hWv ty dc => by
  have := run_copy_row2 (P := Try.prog) W 39 39 ty 42 q (i * 2) (n + 1 - i) dc ⟨vb, 0, none⟩ 1 1 1 ROW1.toArray 42 [.int .i64 x, .int .i64 y] Try.underlying39 szStep
   hWq (by simp only [Nat.min_def]; split <;> omega) rfl
   (fun j v hj => by
    rw [add_plain]
    refine (blk_cell hWv j).trans ?_
    match j, hj with
    | 0, hj => exact hj
    | 1, hj => exact hj
    | j + 2, hj => simp at hj)
   (by rw [List.size_toArray, hrl]; show i * 2 + 2 ≤ _; omega) (by simp [Value.oneCell'])
  have e : (ROW1.toArray.toList.take (i * 2) ++ [Value.int .i64 x, .int .i64 y] ++ ROW1.toArray.toList.drop (i * 2 + [Value.int .i64 x, Value.int .i64 y].length)) = ROW2 := by rw [← hROW2]; rfl
  rw [this, e]
 have HF := Aside0.mk hfin
 have H2 := Aside0.mk h2
 have H3 := Aside0.mk hspl
 have hz2 : ((i : Int) == (n : Int)) = false := by simp; omega
 have hz3 : decide ((c : Int) < (n : Int) + 1) = false := by simp; omega
 have hw1 : IntKind.i64.wrap ((i : Int) + 1) = (i : Int) + 1 := by rw [IntKind.wrap_i64]; omega
 have hb1 : (0 : Int) ≤ (i : Int) + 1 := by omega
 have hin : i ≤ n := by omega
 have htn : ((i : Int) + 1).toNat = i + 1 := by omega
 have hb3 : (i : Int) ≤ (n : Int) + 1 := by omega
 have hb4 : (i : Int) + 1 ≤ (n : Int) + 1 := by omega
 have hci : ¬ (c = i) := by omega
 have hci1 : ¬ (c = i + 1) := by omega
 clear hROW1 hROW2 hfin h2 hspl hdl hdn hcz hnn hll
 go_enter Try.func76, Try.ntmps76
 go_wp2_with (simp only [hov])
 go_region_law (refine step_copy_runI rfl (.tmp 73) (.tmp 76) 39 39 rfl (.slice (some ⟨q, (i + 1) * 2, none⟩) (n - i) (c - (i + 1))) (.slice (some ⟨q, i * 2, none⟩) (n + 1 - i) (c - i)) (by simp [Act.eval, Act.put]) (by simp [Act.eval, Act.put]) (hcp1 w.drew (fun _ => rfl) rfl 3 (n - i) _ _ rfl) ?_)
 have g1 : (w.drew.setRow q ROW1.toArray).heap[q]? = some (.cells ROW1.toArray 42 (0, 0)) := setRow_heap w.drew q _ _ 42 _ h1
 have g2 : (w.drew.setRow q ROW1.toArray).heap[vb]? = some (.cells #[.int .i64 x, .int .i64 y] 42 (0, 0)) := (setRow_other w.drew q vb _ hvq).trans hv
 have hc2 := hcp2 _ g1 g2 3 (c - i)
 go_wp2
 go_ret
 have hz : ((w.drew.setRow q ROW1.toArray).setRow q ROW2.toArray).heap[q]? = some (.cells (lvc (l.take i ++ (x, y) :: l.drop i) ++ sp.drop 2).toArray 42 (0, 0)) := by
  rw [← HF.out]; exact setRow_heap _ q _ _ 42 _ g1
 refine ⟨q, c, by rw [HN.out]; rfl, ⟨sp.drop 2, hz, ?_, ?_⟩, hc, .inl rfl, ?_⟩
 ·have := H2.out; have := H3.out
  rw [List.length_append, lvc_length] at *
  simp only [List.length_append, List.length_cons, List.length_take, List.length_drop, HN.out] at *
  omega
 ·simp only [List.length_append, List.length_cons, List.length_take, List.length_drop, HN.out]; omega
 ·exact ⟨rfl, rfl, rfl, by simp [World.setRow], fun k hk hne => by
   have hk' : k ≠ q := fun e => hne (by rw [e])
   rw [setRow_other _ q k _ hk', setRow_other w.drew q k _ hk']; rfl⟩
end Go.Proofs.Ytlddccmgamlccaa.Us

set_option linter.unusedVariables false
set_option linter.unusedSimpArgs false
namespace Go.Proofs.Ytlddccmgamlccaa.Us
open Go Go.Proofs Go.RowKit Go.Lib Go.Proofs.YtlddccmgamlccaaW.PrintWords Go.Proofs.YtlddccmgamlccaaW.PrintLast Go.Proofs.YtlddccmgamlccaaW.PrintMore

/-- a new row, the new step laid behind the head, the tail behind that -/
theorem laid3 (A Z V T : List Value) (k : Nat) (hA : A.length = k) (hV : V.length = 2) (hZ : 2 + T.length ≤ Z.length) :
  ((A ++ Z).take k ++ V ++ (A ++ Z).drop (k + V.length)).take (k + 2) ++ T ++ ((A ++ Z).take k ++ V ++ (A ++ Z).drop (k + V.length)).drop (k + 2 + T.length) = A ++ V ++ T ++ Z.drop (2 + T.length) := by
 subst hA
 have e1 : (A ++ Z).take A.length = A := List.take_left
 have e2 : (A ++ Z).drop (A.length + V.length) = Z.drop V.length := by rw [List.drop_append]; simp
 rw [e1, e2]
 have e3 : (A ++ V ++ Z.drop V.length).take (A.length + 2) = A ++ V := by
  rw [show A.length + 2 = (A ++ V).length by rw [List.length_append, hV]]; exact List.take_left
 have e4 : (A ++ V ++ Z.drop V.length).drop (A.length + 2 + T.length) = Z.drop (2 + T.length) := by
  rw [List.drop_append, List.length_append, hV, List.drop_of_length_le (by rw [List.length_append, hV]; omega), List.nil_append, List.drop_drop]
  congr 1; omega
 rw [e3, e4]

theorem K_i {w : World} {q vb : Nat} {l : List (Int × Int)} : True := trivial

set_option maxRecDepth 100000 in
set_option maxHeartbeats 8000000 in
theorem insert_grow (q c vb i : Nat) (l : List (Int × Int)) (x y : Int) (w : World) (hR : RowIs w q c l) (hv : w.heap[vb]? = some (.cells #[.int .i64 x, .int .i64 y] 42 (0, 0)))
  (hi : i < l.length) (hroom : c < l.length + 1) (hn : l.length < 1099511627776) :
  Calls Try.prog 76 #[.slice (some ⟨q, 0, none⟩) l.length c, .int .i64 (i : Int), .slice (some ⟨vb, 0, none⟩) 1 1] w (Inserted w q i l x y) := by
 obtain ⟨i0, hi0, hz0, hzs, hzb⟩ := info_parts infoStep
 obtain ⟨sp, h1, h2, h3⟩ := hR
 have hll := lvc_length l
 have hws : q < w.heap.size := blk_lt h1
 have hwv : vb < w.heap.size := blk_lt hv
 obtain ⟨n, hnn⟩ : ∃ n, l.length = n := ⟨_, rfl⟩
 have HN := Aside0.mk hnn
 rw [hnn] at hi hroom hn h3 hll ⊢
 obtain rfl : c = n := by omega
 have hcell : ∀ j v, (lvc l)[j]? = some v → w.cell? ⟨q, j, none⟩ = some v := fun j v hj => by
  refine (blk_cell h1 j).trans ?_
  rw [List.getElem?_toArray, List.getElem?_append_left (List.getElem?_eq_some_iff.1 hj).1]; exact hj
 obtain ⟨A, hA⟩ : ∃ A, (lvc l).take (i * 2) = A := ⟨_, rfl⟩
 have hAl : A.length = i * 2 := by rw [← hA, List.length_take, hll]; omega
 have hold : (Builtin.firstCells i0.size i (.slice (some ⟨q, 0, none⟩) i c)).run Try.prog w.drew = .ok A.toArray w.drew := by
  rw [hzs]
  exact run_firstCells_some w.drew 2 i ⟨q, 0, none⟩ i c A hAl (fun j v hj => by
   rw [add_plain]
   rw [← hA, List.getElem?_take] at hj
   split at hj
   ·exact hcell j v hj
   ·cases hj)
 obtain ⟨G, hG⟩ : ∃ G, grownCap w (c + 1) c 42 = G := ⟨_, rfl⟩
 have hGn : c + 1 ≤ G := by rw [← hG]; exact grownCap_ge w _ _ _
 have hG63 : G ≤ 9223372036854775807 := by
  have := grownCap_le_maxLen w (c + 1) c 42 (by unfold maxLen; omega)
  rw [hG] at this
  unfold maxLen at this
  omega
 obtain ⟨Z, hZ⟩ : ∃ Z : List Value, (Builtin.zeroCells (Value.agg #[.int .i64 0, .int .i64 0]).cells (c + 1 - i)).toList ++ (Builtin.zeroCells (Value.agg #[.int .i64 0, .int .i64 0]).cells (G - (c + 1))).toList = Z := ⟨_, rfl⟩
 have hZl : Z.length = (G - i) * 2 := by
  rw [← hZ, List.length_append, Array.length_toList, Array.length_toList, size_zeroCells, size_zeroCells]
  show (c + 1 - i) * 2 + (G - (c + 1)) * 2 = _
  omega
 obtain ⟨N, hN⟩ : ∃ N, w.heap.size = N := ⟨_, rfl⟩
 obtain ⟨W1, hW1⟩ : ∃ W1, w.drew.alloc (.cells (A ++ Z).toArray 42) = W1 := ⟨_, rfl⟩
 have hrz : ∀ ty, (Builtin.append_ #[39, 3] ty #[.slice (some ⟨q, 0, none⟩) i c, .int .i64 ((c : Int) + 1 - (i : Int))]).run Try.prog w = .ok (.slice (some ⟨N, 0, none⟩) (c + 1) G) W1 := fun ty => by
  have h := Lib.run_append_grow_zeros w 39 3 ty 42 i0 _ .i64 .i64 Try.underlying39 Try.underlying3 hi0 hz0 (some ⟨q, 0, none⟩) i c A hold (c + 1 - i) (by omega) (by omega) (by omega) (by omega) (by rw [hzb]; omega) (by rw [hzb, show i + (c + 1 - i) = c + 1 by omega]; exact growslice_fits (by omega) (by omega))
  rw [show i + (c + 1 - i) = c + 1 by omega, hG, hN] at h
  rw [show (c : Int) + 1 - (i : Int) = ((c + 1 - i : Nat) : Int) by omega, h]
  congr 1
  rw [← hW1, ← hZ]
  congr 2
  rw [List.append_toArray, List.append_toArray, List.append_assoc] <;> simp
 have gN : W1.heap[N]? = some (.cells (A ++ Z).toArray 42 (0, 0)) := by rw [← hW1, ← hN]; exact blk_new w.drew _
 have gq : W1.heap[q]? = some (.cells (lvc l ++ sp).toArray 42 (0, 0)) := by rw [← hW1]; exact blk_alloc (blk_drew h1) _
 have gv : W1.heap[vb]? = some (.cells #[.int .i64 x, .int .i64 y] 42 (0, 0)) := by rw [← hW1]; exact blk_alloc (blk_drew hv) _
 have gg : w.grownBy W1 (some q) := by
  rw [← hW1]
  exact grown_of_below ((below_drew1 (Below.refl _ w)).alloc (Nat.le_refl _) _) _
 have hqN : q ≠ N := by omega
 have hvN : vb ≠ N := by omega
 obtain ⟨ROW1, hROW1⟩ : ∃ R, (A ++ Z).take (i * 2) ++ [Value.int .i64 x, .int .i64 y] ++ (A ++ Z).drop (i * 2 + [Value.int .i64 x, Value.int .i64 y].length) = R := ⟨_, rfl⟩
 have hR1l : ROW1.length = G * 2 := by
  rw [← hROW1]; simp only [List.length_append, List.length_take, List.length_drop, List.length_cons, List.length_nil]; omega
 have hc1 : ∀ ty dc, (Builtin.copy_ #[39, 39] ty #[.slice (some ⟨N, i * 2, none⟩) (c + 1 - i) dc, .slice (some ⟨vb, 0, none⟩) 1 1]).run Try.prog W1 = .ok (goInt ((1 : Nat) : Int)) (W1.setRow N ROW1.toArray) := fun ty dc => by
  have := run_copy_row2 (P := Try.prog) W1 39 39 ty 42 N (i * 2) (c + 1 - i) dc ⟨vb, 0, none⟩ 1 1 1 (A ++ Z).toArray 42 [.int .i64 x, .int .i64 y] Try.underlying39 szStep
   gN (by simp only [Nat.min_def]; split <;> omega) rfl
   (fun j v hj => by
    rw [add_plain]
    refine (blk_cell gv j).trans ?_
    match j, hj with
    | 0, hj => exact hj
    | 1, hj => exact hj
    | j + 2, hj => simp at hj)
   (by rw [List.size_toArray, List.length_append]; show i * 2 + 2 ≤ _; omega) (by simp [Value.oneCell'])
  rw [this]
  have e : ((A ++ Z).toArray.toList.take (i * 2) ++ [Value.int .i64 x, .int .i64 y] ++ (A ++ Z).toArray.toList.drop (i * 2 + [Value.int .i64 x, Value.int .i64 y].length)) = ROW1 := hROW1
  rw [e]
 obtain ⟨W2, hW2⟩ : ∃ W2, W1.setRow N ROW1.toArray = W2 := ⟨_, rfl⟩
 rw [hW2] at hc1
 have kN : W2.heap[N]? = some (.cells ROW1.toArray 42 (0, 0)) := by rw [← hW2]; exact setRow_heap W1 N _ _ 42 _ gN
 have kq : W2.heap[q]? = some (.cells (lvc l ++ sp).toArray 42 (0, 0)) := by rw [← hW2]; exact (setRow_other W1 N q _ hqN).trans gq
 have kg : w.grownBy W2 (some q) := by
  rw [← hW2]
  exact ⟨gg.os, gg.tape, gg.output, by simp [World.setRow]; exact gg.size, fun k hk hne => (setRow_other W1 N k _ (by omega)).trans (gg.block k hk hne)⟩
 obtain ⟨T, hT⟩ : ∃ T, (lvc l).drop (i * 2) = T := ⟨_, rfl⟩
 have hTl : T.length = (c - i) * 2 := by rw [← hT, List.length_drop, hll]; omega
 obtain ⟨ROW2, hROW2⟩ : ∃ R, ROW1.take (i * 2 + 2) ++ T ++ ROW1.drop (i * 2 + 2 + T.length) = R := ⟨_, rfl⟩
 have hfin : ROW2 = lvc (l.take i ++ (x, y) :: l.drop i) ++ Z.drop (2 + T.length) := by
  have := laid3 A Z [Value.int .i64 x, .int .i64 y] T (i * 2) hAl rfl (by omega)
  rw [hROW1, hROW2] at this
  rw [this, lvc_append, lvc, lvc_take, lvc_drop, hA, hT]
  simp
 have hc2 : ∀ ty dl dc sc, dl = c - i → (Builtin.copy_ #[39, 39] ty #[.slice (some ⟨N, (i + 1) * 2, none⟩) dl dc, .slice (some ⟨q, i * 2, none⟩) (c - i) sc]).run Try.prog W2.drew = .ok (goInt ((c - i : Nat) : Int)) (W2.drew.setRow N ROW2.toArray) := fun ty dl dc sc hdl => by
  have := run_copy_row2 (P := Try.prog) W2.drew 39 39 ty 42 N ((i + 1) * 2) dl dc ⟨q, i * 2, none⟩ (c - i) sc (c - i) ROW1.toArray 42 T Try.underlying39 szStep
   kN (by subst hdl; simp only [Nat.min_def]; split <;> omega) hTl
   (fun j v hj => by
    rw [← hT, List.getElem?_drop] at hj
    have hjl : i * 2 + j < (lvc l).length := (List.getElem?_eq_some_iff.1 hj).1
    have e : (⟨q, i * 2, none⟩ : Addr).add j = ⟨q, i * 2 + j, none⟩ := by unfold Addr.add; split <;> simp_all
    rw [e]
    refine (blk_cell (blk_drew kq) (i * 2 + j)).trans ?_
    rw [List.getElem?_toArray, List.getElem?_append_left hjl]; exact hj)
   (by rw [List.size_toArray, hR1l, hTl]; omega) (fun v hv => lvc_one l v (by rw [← hT] at hv; exact List.mem_of_mem_drop hv))
  have e : (ROW1.toArray.toList.take ((i + 1) * 2) ++ T ++ ROW1.toArray.toList.drop ((i + 1) * 2 + T.length)) = ROW2 := by
   rw [← hROW2, show (i + 1) * 2 = i * 2 + 2 by omega]
  rw [this, e]
 have HF := Aside0.mk hfin
 have HR := Aside0.mk hROW2
 have HR1 := Aside0.mk hR1l
 have HT := Aside0.mk hTl
 have HZ := Aside0.mk hZl
 have HK := Aside0.mk kg
 have HNn := Aside0.mk hN
 have HKN := Aside0.mk kN
 have hz2 : ((i : Int) == (c : Int)) = false := by simp; omega
 have hz3 : decide ((c : Int) < (c : Int) + 1) = true := by simp; omega
 have hw1 : IntKind.i64.wrap ((i : Int) + 1) = (i : Int) + 1 := by rw [IntKind.wrap_i64]; omega
 have hb1 : (0 : Int) ≤ (i : Int) + 1 := by omega
 have hin : i ≤ c := by omega
 have htn : ((i : Int) + 1).toNat = i + 1 := by omega
 have hb3 : (i : Int) ≤ (c : Int) + 1 := by omega
 have hb4 : (i : Int) + 1 ≤ (c : Int) + 1 := by omega
 have hci : ¬ (c = i) := by omega
 have hGi : ¬ (G = i) := by omega
 have hGi1 : ¬ (G = i + 1) := by omega
 clear hROW1 hROW2 hfin hnn hll hA hold hG hZ hN hW1 hW2 hT hTl hZl hR1l kg gg gN gq gv kN kq hAl hcell h2
 go_enter Try.func76, Try.ntmps76
 go_wp2_with (first | (at_builtin; refine Lib.wpList_append_run _ rfl _ _ _ _ rfl _ _ rfl rfl _ _ (hrz _) ?_))
 go_region_law (refine step_copy_runI rfl (.tmp 50) (.tmp 53) 39 39 rfl (.slice (some ⟨N, (i + 1) * 2, none⟩) (c - i) (G - (i + 1))) (.slice (some ⟨q, i * 2, none⟩) (c - i) (c - i)) (by simp [Act.eval, Act.put]) (by simp [Act.eval, Act.put]) (hc2 3 (c - i) _ _ rfl) ?_)
 go_wp2
 go_ret
 have kN2 : (W2.drew.setRow N ROW2.toArray).heap[N]? = some (.cells (lvc (l.take i ++ (x, y) :: l.drop i) ++ Z.drop (2 + T.length)).toArray 42 (0, 0)) := by
  rw [← HF.out]; exact setRow_heap _ N _ _ 42 _ HKN.out
 refine ⟨N, G, by rw [HN.out]; rfl, ⟨Z.drop (2 + T.length), kN2, ?_, ?_⟩, hG63, .inr (Nat.le_of_eq HNn.out), ?_⟩
 ·have h4 := HT.out; have h5 := HZ.out; have h6 := HN.out
  rw [List.length_append, lvc_length]
  simp only [List.length_append, List.length_cons, List.length_take, List.length_drop, h4, h5, h6]
  omega
 ·simp only [List.length_append, List.length_cons, List.length_take, List.length_drop, HN.out]; omega
 ·have hg := HK.out
  have h7 := HNn.out
  exact ⟨hg.os, hg.tape, hg.output, by simp [World.setRow]; exact hg.size, fun k hk hne => (setRow_other W2.drew N k _ (by omega)).trans (hg.block k hk hne)⟩
end Go.Proofs.Ytlddccmgamlccaa.Us

set_option linter.unusedVariables false
set_option linter.unusedSimpArgs false
namespace Go.Proofs.Ytlddccmgamlccaa.Us
open Go Go.Proofs Go.RowKit Go.Lib Go.Proofs.YtlddccmgamlccaaW.PrintWords Go.Proofs.YtlddccmgamlccaaW.PrintLast Go.Proofs.YtlddccmgamlccaaW.PrintMore

theorem insert_any (q c vb i : Nat) (l : List (Int × Int)) (x y : Int) (w : World) (hR : RowIs w q c l) (hc : c ≤ 9223372036854775807) (hv : w.heap[vb]? = some (.cells #[.int .i64 x, .int .i64 y] 42 (0, 0))) (hvq : vb ≠ q)
  (hi : i ≤ l.length) (hn : l.length < 1099511627776) (j : Int) (hj : j = (i : Int)) :
  Calls Try.prog 76 #[.slice (some ⟨q, 0, none⟩) l.length c, .int .i64 j, .slice (some ⟨vb, 0, none⟩) 1 1] w (Inserted w q i l x y) := by
 subst hj
 rcases Nat.lt_or_ge i l.length with h | h
 ·rcases Nat.lt_or_ge c (l.length + 1) with h2 | h2
  ·exact insert_grow q c vb i l x y w hR hv h h2 hn
  ·exact insert_shift q c vb i l x y w hR hc hv hvq h h2 hn
 ·obtain rfl : i = l.length := by omega
  exact insert_end q c vb l x y w hR hc hv hn

/-- of what there was, nothing has turned but the blocks p and q, q1 is q or new -/
structure Turned (w w' : World) (p q q1 : Nat) : Prop where
 os : w'.os = w.os
 tape : w'.tape = w.tape
 output : w'.output = w.output
 size : w.heap.size ≤ w'.heap.size
 block : ∀ k, k < w.heap.size → k ≠ p → k ≠ q → w'.heap[k]? = w.heap[k]?
 row : q1 = q ∨ w.heap.size ≤ q1
theorem Turned.of_below {w w' : World} {p q : Nat} (h : Below w.heap.size w w') : Turned w w' p q q := ⟨h.os, h.tape, h.output, h.size, fun k hk _ _ => h.block k hk, .inl rfl⟩
theorem Turned.trans {w w1 w2 : World} {p q q1 q2 : Nat} (h : Turned w w1 p q q1) (k : Turned w1 w2 p q1 q2) : Turned w w2 p q q2 :=
 ⟨k.os.trans h.os, k.tape.trans h.tape, k.output.trans h.output, Nat.le_trans h.size k.size,
 fun j hj hp hq => (k.block j (Nat.lt_of_lt_of_le hj h.size) hp (fun e => by rcases h.row with r | r <;> omega)).trans (h.block j hj hp hq),
 by have := h.size; rcases h.row with r | r <;> rcases k.row with s | s <;> omega⟩

/-- the steps, with one that begins at a time -/
def cutL (l : List (Int × Int)) (t : Int) : List (Int × Int) :=
 if 1099511627776 ≤ t then l else match l[pl l t]? with
 | some s => if s.1 = t then l else l.take (pl l t + 1) ++ (t, s.2) :: l.drop (pl l t + 1)
 | none => l
/-- the place of that -/
def cutI (l : List (Int × Int)) (t : Int) : Nat :=
 if 1099511627776 ≤ t then l.length else match l[pl l t]? with
 | some s => if s.1 = t then pl l t else pl l t + 1
 | none => 0

theorem RowIs.set {w : World} {q c p : Nat} {l : List (Int × Int)} (h : RowIs w q c l) (hp : p ≠ q) (v : Value) : RowIs (w.setCell ⟨p, 0, none⟩ v) q c l := by
 obtain ⟨sp, h1, h2⟩ := h
 exact ⟨sp, (Below.heap_setCell w ⟨p, 0, none⟩ v q (Ne.symm hp)).trans h1, h2⟩
theorem below_cell1 {w w1 : World} {a : Addr} {v : Value} (h : Below w.heap.size w w1) (hc : w.cell? a = some v) : w1.cell? a = some v := (h.cell (World.block_lt_of_cell? w a hc)).trans hc

--DEFS
def cutR.T6 : Bool × List (List Nat × List Nat) := (true, [([], []), ([], []), ([1], [1]), ([2], [2]), ([3], [3]), ([], []), ([5], [5]), ([], []), ([], []), ([8], [8]), ([9], [9]), ([10], [10]), ([], []), ([11, 12], [11, 12]), ([13], [13]), ([14], [14]), ([7, 15], [7, 15]), ([16], [16]), ([4, 6, 17], [4, 6, 17]), ([0, 0, 1, 2, 3, 4, 5, 6, 7, 8, 9, 10, 11, 12, 13, 14, 15, 16, 17, 18], [0]), ([19, 0, 1, 2, 3, 4, 5, 6, 7, 8, 9, 10, 11, 12, 13, 14, 15, 16, 17, 18], [19]), ([20, 18, 18, 0, 1, 2, 3, 4, 5, 6, 7, 8, 9, 10, 11, 12, 13, 14, 15, 16, 17, 18], [18, 20])])
def cutR.B6 : List Nat := [0, 0, 2, 6, 14, 0, 32, 0, 0, 256, 768, 1792, 0, 7936, 16128, 32512, 65408, 130944, 262142, 524287, 1048575, 2097151]
theorem cutR.tab6 : rtab .any (opsOf Try.f62 6) = cutR.T6 := by kernel_rfl
theorem cutR.bits6 : waitsOk cutR.T6.2 cutR.B6 = true := by kernel_rfl
--END
set_option maxRecDepth 100000 in
set_option maxHeartbeats 4000000 in
theorem cut_calls (p q c : Nat) (l : List (Int × Int)) (t : Int) (w : World) (hS : StepsIs w p q c l) (hs : Rise l) (hT : Tame l) (ht : 0 ≤ t ∧ t < 4611686018427387904) (hn : l.length < 1099511627776)
  (s0 : Int × Int) (r0 : List (Int × Int)) (hl : l = s0 :: r0) (h0 : s0.1 ≤ t) :
  Calls Try.prog 62 #[.pointer (some ⟨p, 0, none⟩), .int .i64 t] w fun ev w' => ev = .returned (.int .i64 (cutI l t : Int)) ∧ ∃ q1 c1, StepsIs w' p q1 c1 (cutL l t) ∧ Turned w w' p q q1 := by
 have hcell : w.cell? ⟨p, 0, none⟩ = some (.slice (some ⟨q, 0, none⟩) l.length c) := (blk_cell hS.ptr 0).trans rfl
 by_cases hb : 1099511627776 ≤ t
 ·have hd : decide (t ≥ 1099511627776) = true := by simp; omega
  have e1 : cutL l t = l := by unfold cutL; rw [if_pos hb]
  have e2 : cutI l t = l.length := by unfold cutI; rw [if_pos hb]
  rw [e1, e2]
  have HS := Aside0.mk hS
  clear hS hl h0 hn hs hT e1 e2
  go_enter Try.func62, Try.ntmps62
  go_wp2
  go_ret
  exact ⟨rfl, q, c, HS.out, Turned.of_below (Below.refl _ w)⟩
 ·have hd : decide (t ≥ 1099511627776) = false := by simp; omega
  have hpl : pl l t < l.length := pl_lt t (by rw [hl]; exact List.cons_ne_nil _ _)
  have hplace := place_calls p q c l t w hS hs hT ht (by omega) s0 r0 hl h0
  obtain ⟨i, hi⟩ : ∃ i, pl l t = i := ⟨_, rfl⟩
  obtain ⟨x, y, hxy, cx, cy⟩ := hS.row.at_ (pl l t) hpl
  have e1 : cutL l t = if x = t then l else l.take (i + 1) ++ (t, y) :: l.drop (i + 1) := by
   unfold cutL; rw [if_neg hb, List.getElem?_eq_getElem hpl, hxy, hi]
  have e2 : cutI l t = if x = t then i else i + 1 := by
   unfold cutI; rw [if_neg hb, List.getElem?_eq_getElem hpl, hxy, hi]
  rw [e1, e2]
  rw [hi] at hplace hpl cx cy
  have HS := Aside0.mk hS
  have HL := Aside0.mk hpl
  have hw1 : IntKind.i64.wrap ((i : Int) + 1) = (i : Int) + 1 := by rw [IntKind.wrap_i64]; omega
  have hin : (i : Int) < (l.length : Int) := by omega
  have hpq : ¬ (p = q) := hS.ne
  clear hl h0 hs hT e1 e2 hi hxy
  by_cases hxt : x = t
  ·subst hxt
   simp only [if_true]
   clear hS
   go_enter Try.func62, Try.ntmps62
   go_wp2_with (go_at_call 61; refine hplace.mono ?_; rintro ev w1 ⟨rfl, hb1⟩; have gS := HS.out.below hb1; have gc : w1.cell? ⟨p, 0, none⟩ = some (.slice (some ⟨q, 0, none⟩) l.length c) := (blk_cell gS.ptr 0).trans rfl; obtain ⟨gx, gy⟩ : w1.cell? ⟨q, i * 2, none⟩ = some (.int .i64 x) ∧ w1.cell? ⟨q, i * 2 + 1, none⟩ = some (.int .i64 y) := ⟨(below_cell1 hb1 cx), (below_cell1 hb1 cy)⟩; clear gS)
   go_ret
   exact ⟨rfl, q, c, HS.out.below hb1, Turned.of_below hb1⟩
  ·simp only [if_neg hxt]
   clear hS
   have hxt2 : decide (x = t) = false := by simpa using hxt
   go_enter Try.func62, Try.ntmps62
   go_wp2_with (go_at_call 61; refine hplace.mono ?_; rintro ev w1 ⟨rfl, hb1⟩; have gS := HS.out.below hb1; have gc : w1.cell? ⟨p, 0, none⟩ = some (.slice (some ⟨q, 0, none⟩) l.length c) := (blk_cell gS.ptr 0).trans rfl; obtain ⟨gx, gy⟩ : w1.cell? ⟨q, i * 2, none⟩ = some (.int .i64 x) ∧ w1.cell? ⟨q, i * 2 + 1, none⟩ = some (.int .i64 y) := ⟨(below_cell1 hb1 cx), (below_cell1 hb1 cy)⟩; clear gS)
   have hb2 := below_drew1 (hb1.alloc hb1.size (.cells #[.int .i64 t, .int .i64 y] 42))
   have hvq : w1.heap.size ≠ q := by have := blk_lt HS.out.row.choose_spec.1; have := hb1.size; omega
   have hi1 : i + 1 ≤ l.length := by have := HL.out; omega
   have hi2 := Aside0.mk (show (i : Int) + 1 = ((i + 1 : Nat) : Int) by omega)
--WALK
   refine start_ (n := 22) (S := fun w' => w'.cell? ⟨p, 0, none⟩ = some (.slice (some ⟨q, 0, none⟩) l.length c)) (ds := [21]) #[false, false, false, false, false, false, false, false, false, false, false, false, false, false, false, false, false, false, false, false, false, false] (by kernel_rfl) rfl rfl (gc) (fun hHeld => ?_); refine with_tabW cutR.tab6 cutR.bits6 (fun HT_ HW_ => ?_)
   refine pure_ (i := 0) (N := some 27) (v := ?_) (a' := ?_) #[true, false, false, false, false, false, false, false, false, false, false, false, false, false, false, false, false, false, false, false, false, false] rfl rfl (any_of HT_.out (by kernel_rfl)) (fun _ _ _ h => h) (Or.inl ⟨by rfl, ?_⟩) ?_ ?_
   rotate_left
   ·intro w'
    go_simp
    with_reducible rfl
   rotate_left
   ·simp only [Act.put, List.setIfInBounds_toArray, List.set_cons_zero, List.set_cons_succ, i64_w, i32_w]
    rfl
   refine pure_ (i := 1) (N := some 28) (v := ?_) (a' := ?_) #[true, true, false, false, false, false, false, false, false, false, false, false, false, false, false, false, false, false, false, false, false, false] rfl rfl (any_of HT_.out (by kernel_rfl)) (fun _ _ _ h => h) (Or.inl ⟨by rfl, ?_⟩) ?_ ?_
   rotate_left
   ·intro w'
    go_simp
    with_reducible rfl
   rotate_left
   ·simp only [Act.put, List.setIfInBounds_toArray, List.set_cons_zero, List.set_cons_succ, i64_w, i32_w]
    rfl
   refine pure_ (i := 2) (N := some 29) (v := ?_) (a' := ?_) #[true, true, true, false, false, false, false, false, false, false, false, false, false, false, false, false, false, false, false, false, false, false] rfl rfl (any_of HT_.out (by kernel_rfl)) (fun _ _ _ h => h) (Or.inl ⟨by rfl, ?_⟩) ?_ ?_
   rotate_left
   ·intro w'
    go_simp
    with_reducible rfl
   rotate_left
   ·simp only [Act.put, List.setIfInBounds_toArray, List.set_cons_zero, List.set_cons_succ, i64_w, i32_w]
    rfl
   refine pure_ (i := 3) (N := some 30) (v := ?_) (a' := ?_) #[true, true, true, true, false, false, false, false, false, false, false, false, false, false, false, false, false, false, false, false, false, false] rfl rfl (any_of HT_.out (by kernel_rfl)) (fun _ _ _ h => h) (Or.inl ⟨by rfl, ?_⟩) ?_ ?_
   rotate_left
   ·intro w'
    go_simp
    with_reducible rfl
   rotate_left
   ·simp only [Act.put, List.setIfInBounds_toArray, List.set_cons_zero, List.set_cons_succ, i64_w, i32_w]
    rfl
   refine pure_ (i := 5) (N := some 32) (v := ?_) (a' := ?_) #[true, true, true, true, false, true, false, false, false, false, false, false, false, false, false, false, false, false, false, false, false, false] rfl rfl (any_of HT_.out (by kernel_rfl)) (fun _ _ _ h => h) (Or.inl ⟨by rfl, ?_⟩) ?_ ?_
   rotate_left
   ·intro w'
    go_simp
    with_reducible rfl
   rotate_left
   ·simp only [Act.put, List.setIfInBounds_toArray, List.set_cons_zero, List.set_cons_succ, i64_w, i32_w]
    rfl
   refine pure_ (i := 6) (N := some 33) (v := ?_) (a' := ?_) #[true, true, true, true, false, true, true, false, false, false, false, false, false, false, false, false, false, false, false, false, false, false] rfl rfl (any_of HT_.out (by kernel_rfl)) (fun _ _ _ h => h) (Or.inl ⟨by rfl, ?_⟩) ?_ ?_
   rotate_left
   ·intro w'
    go_simp
    with_reducible rfl
   rotate_left
   ·simp only [Act.put, List.setIfInBounds_toArray, List.set_cons_zero, List.set_cons_succ, i64_w, i32_w]
    rfl
   refine pure_ (i := 7) (N := some 34) (v := ?_) (a' := ?_) #[true, true, true, true, false, true, true, true, false, false, false, false, false, false, false, false, false, false, false, false, false, false] rfl rfl (any_of HT_.out (by kernel_rfl)) (fun _ _ _ h => h) (Or.inl ⟨by rfl, ?_⟩) ?_ ?_
   rotate_left
   ·intro w'
    go_simp
    with_reducible rfl
   rotate_left
   ·simp only [Act.put, List.setIfInBounds_toArray, List.set_cons_zero, List.set_cons_succ, i64_w, i32_w]
    rfl
   refine pure_ (i := 8) (N := some 35) (v := ?_) (a' := ?_) #[true, true, true, true, false, true, true, true, true, false, false, false, false, false, false, false, false, false, false, false, false, false] rfl rfl (any_of HT_.out (by kernel_rfl)) (fun _ _ _ h => h) (Or.inl ⟨by rfl, ?_⟩) ?_ ?_
   rotate_left
   ·intro w'
    go_simp
    with_reducible rfl
   rotate_left
   ·simp only [Act.put, List.setIfInBounds_toArray, List.set_cons_zero, List.set_cons_succ, i64_w, i32_w]
    rfl
   refine pure_ (i := 9) (N := some 36) (v := ?_) (a' := ?_) #[true, true, true, true, false, true, true, true, true, true, false, false, false, false, false, false, false, false, false, false, false, false] rfl rfl (any_of HT_.out (by kernel_rfl)) (fun _ _ _ h => h) (Or.inl ⟨by rfl, ?_⟩) ?_ ?_
   rotate_left
   ·intro w'
    go_simp
    with_reducible rfl
   rotate_left
   ·simp only [Act.put, List.setIfInBounds_toArray, List.set_cons_zero, List.set_cons_succ, i64_w, i32_w]
    rfl
   refine pure_ (i := 10) (N := some 37) (v := ?_) (a' := ?_) #[true, true, true, true, false, true, true, true, true, true, true, false, false, false, false, false, false, false, false, false, false, false] rfl rfl (any_of HT_.out (by kernel_rfl)) (fun _ _ _ h => h) (Or.inl ⟨by rfl, ?_⟩) ?_ ?_
   rotate_left
   ·intro w'
    go_simp
    with_reducible rfl
   rotate_left
   ·simp only [Act.put, List.setIfInBounds_toArray, List.set_cons_zero, List.set_cons_succ, i64_w, i32_w]
    rfl
   refine pure_ (i := 12) (N := some 39) (v := ?_) (a' := ?_) #[true, true, true, true, false, true, true, true, true, true, true, false, true, false, false, false, false, false, false, false, false, false] rfl rfl (any_of HT_.out (by kernel_rfl)) (fun _ _ _ h => h) (Or.inl ⟨by rfl, ?_⟩) ?_ ?_
   rotate_left
   ·intro w'
    go_simp
    with_reducible rfl
   rotate_left
   ·simp only [Act.put, List.setIfInBounds_toArray, List.set_cons_zero, List.set_cons_succ, i64_w, i32_w]
    rfl
   refine take_ (i := 4) (N := some 31) (v := ?_) (a' := ?_) #[true, true, true, true, true, true, true, true, true, true, true, false, true, false, false, false, false, false, false, false, false, false] rfl rfl (take_ofW HT_.out HW_.out (by kernel_rfl)) (fun _ _ _ h => h) (Or.inl ⟨by rfl, ?_⟩) hHeld ?_ ?_
   rotate_left
   ·rintro w' s0
    go_simp
    with_reducible rfl
   rotate_left
   ·simp only [Act.put, List.setIfInBounds_toArray, List.set_cons_zero, List.set_cons_succ, i64_w, i32_w]
    rfl
   refine take_ (i := 11) (N := some 38) (v := ?_) (a' := ?_) #[true, true, true, true, true, true, true, true, true, true, true, true, true, false, false, false, false, false, false, false, false, false] rfl rfl (take_ofW HT_.out HW_.out (by kernel_rfl)) (fun _ _ _ h => h) (Or.inl ⟨by rfl, ?_⟩) hHeld ?_ ?_
   rotate_left
   ·rintro w' s0
    go_simp
    with_reducible rfl
   rotate_left
   ·simp only [Act.put, List.setIfInBounds_toArray, List.set_cons_zero, List.set_cons_succ, i64_w, i32_w]
    rfl
   refine pure_ (i := 13) (N := some 40) (v := ?_) (a' := ?_) #[true, true, true, true, true, true, true, true, true, true, true, true, true, true, false, false, false, false, false, false, false, false] rfl rfl (any_of HT_.out (by kernel_rfl)) (fun _ _ _ h => h) (Or.inl ⟨by rfl, ?_⟩) ?_ ?_
   rotate_left
   ·intro w'
    go_simp
    with_reducible rfl
   rotate_left
   ·simp only [Act.put, List.setIfInBounds_toArray, List.set_cons_zero, List.set_cons_succ, i64_w, i32_w]
    rfl
   refine pure_ (i := 14) (N := some 41) (v := ?_) (a' := ?_) #[true, true, true, true, true, true, true, true, true, true, true, true, true, true, true, false, false, false, false, false, false, false] rfl rfl (any_of HT_.out (by kernel_rfl)) (fun _ _ _ h => h) (Or.inl ⟨by rfl, ?_⟩) ?_ ?_
   rotate_left
   ·intro w'
    go_simp
    with_reducible rfl
   rotate_left
   ·simp only [Act.put, List.setIfInBounds_toArray, List.set_cons_zero, List.set_cons_succ, i64_w, i32_w]
    rfl
   refine one_ (i := 15) (N := some 42) #[true, true, true, true, true, true, true, true, true, true, true, true, true, true, true, true, false, false, false, false, false, false] rfl rfl (one_of HT_.out (by kernel_rfl)) (by decide) (fun K hK => ?_)
   refine value_ rfl rfl (by go_simp; exact ⟨rfl, rfl⟩) ?_
   refine hK.out _ _ (hHeld) (fun hHeld => ?_)
   clear hK K
   refine norm_ (a' := ?_) ?_ ?_
   rotate_left
   ·show Act.put _ (some 42) _ = _
    simp only [Act.put, List.setIfInBounds_toArray, List.set_cons_zero, List.set_cons_succ, i64_w, i32_w]
    rfl
   refine pure_ (i := 16) (N := some 43) (v := ?_) (a' := ?_) #[true, true, true, true, true, true, true, true, true, true, true, true, true, true, true, true, true, false, false, false, false, false] rfl rfl (any_of HT_.out (by kernel_rfl)) (fun _ _ _ h => h) (Or.inl ⟨by rfl, ?_⟩) ?_ ?_
   rotate_left
   ·intro w'
    go_simp
    with_reducible rfl
   rotate_left
   ·simp only [Act.put, List.setIfInBounds_toArray, List.set_cons_zero, List.set_cons_succ, i64_w, i32_w]
    rfl
   refine one_ (i := 17) (N := some 44) #[true, true, true, true, true, true, true, true, true, true, true, true, true, true, true, true, true, true, false, false, false, false] rfl rfl (one_of HT_.out (by kernel_rfl)) (by decide) (fun K hK => ?_)
   refine value_ rfl rfl (by go_simp; exact ⟨rfl, rfl⟩) ?_
   have gA := below_cell1 ((Below.refl _ w1).alloc (Nat.le_refl _) (.cells #[.int .i64 t, .int .i64 y] 42 (0, 0))) gc
   refine hK.out _ _ (gA) (fun hHeld => ?_)
   clear hK K
   refine norm_ (a' := ?_) ?_ ?_
   rotate_left
   ·show Act.put _ (some 44) _ = _
    simp only [Act.put, List.setIfInBounds_toArray, List.set_cons_zero, List.set_cons_succ, i64_w, i32_w]
    rfl
   refine one_ (i := 18) (N := some 45) #[true, true, true, true, true, true, true, true, true, true, true, true, true, true, true, true, true, true, true, false, false, false] rfl rfl (one_of HT_.out (by kernel_rfl)) (by decide) (fun K hK => ?_)
   refine goes_ Try.func76 (by kernel_rfl) rfl #[.slice (some ⟨q, 0, none⟩) l.length c, .int .i64 ((i : Int) + 1), .slice (some ⟨w1.heap.size, 0, none⟩) 1 1] (by rfl) rfl rfl (by (try simp only [List.map_toArray, List.map_cons, List.map_nil]); first | done | rfl | (simp only [List.length_drop, List.length_take]; rfl)) ?_
   with_reducible refine (insert_any q c w1.heap.size (i + 1) l t y _ (RowIs.below HS.out.row hb2) HS.out.cap (blk_drew (blk_new w1 _)) hvq hi1 hn _ hi2.out).mono ?_
   rintro ev w2 ⟨q1, c1, rfl, R1, hc1, hq1, hg⟩
   have hp2 := (hg.block p (Nat.lt_of_lt_of_le (blk_lt HS.out.ptr) hb2.size) (by simpa using hpq)).trans (blk_below HS.out.ptr hb2)
   have gp2 : w2.cell? ⟨p, 0, none⟩ = some (.slice (some ⟨q, 0, none⟩) l.length c) := (blk_cell hp2 0).trans rfl
   have fp2 := blk_frozen hp2 0
   refine ⟨_, rfl, ?_⟩
   refine hK.out _ _ (gp2) (fun hHeld => ?_)
   clear hK K
   refine norm_ (a' := ?_) ?_ ?_
   rotate_left
   ·show Act.put _ (some 45) _ = _
    simp only [Act.put, List.setIfInBounds_toArray, List.set_cons_zero, List.set_cons_succ, i64_w, i32_w]
    rfl
   refine pure_ (i := 19) (N := some 46) (v := ?_) (a' := ?_) #[true, true, true, true, true, true, true, true, true, true, true, true, true, true, true, true, true, true, true, true, false, false] rfl rfl (any_of HT_.out (by kernel_rfl)) (fun _ _ _ h => h) (Or.inl ⟨by rfl, ?_⟩) ?_ ?_
   rotate_left
   ·intro w'
    go_simp
    with_reducible rfl
   rotate_left
   ·simp only [Act.put, List.setIfInBounds_toArray, List.set_cons_zero, List.set_cons_succ, i64_w, i32_w]
    rfl
   refine pure_ (i := 20) (N := some 47) (v := ?_) (a' := ?_) #[true, true, true, true, true, true, true, true, true, true, true, true, true, true, true, true, true, true, true, true, true, false] rfl rfl (any_of HT_.out (by kernel_rfl)) (fun _ _ _ h => h) (Or.inl ⟨by rfl, ?_⟩) ?_ ?_
   rotate_left
   ·intro w'
    go_simp
    with_reducible rfl
   rotate_left
   ·simp only [Act.put, List.setIfInBounds_toArray, List.set_cons_zero, List.set_cons_succ, i64_w, i32_w]
    rfl
   refine last_ (i := 21) (N := none) #[true, true, true, true, true, true, true, true, true, true, true, true, true, true, true, true, true, true, true, true, true, true] rfl rfl (one_of HT_.out (by kernel_rfl)) (by decide) (fun K hK => ?_)
   refine skip_ (w1 := ?_) (by rfl) rfl ?_ ?_
   rotate_left
   ·go_simp
    rfl
   refine hK.out _ _ ?_
   clear hK K
   refine done_ (done_of HT_.out (by kernel_rfl)) ?_
--END
   go_wp2
   go_ret
   have hpw := blk_lt HS.out.ptr
   have hpW := Nat.lt_of_lt_of_le hpw hb2.size
   have hpq1 : p ≠ q1 := by rcases hq1 with e | e <;> omega
   have hlen : (l.take (i + 1) ++ (t, y) :: l.drop (i + 1)).length = l.length + 1 := by simp only [List.length_append, List.length_cons, List.length_take, List.length_drop]; omega
   refine ⟨ret_int hi2.out, q1, c1, ⟨?_, R1.set hpq1 _, hpq1, hc1⟩, ?_⟩
   ·rw [hlen]; exact blk_put hp2 0 _ rfl
   ·refine ⟨hg.os.trans hb2.os, hg.tape.trans hb2.tape, hg.output.trans hb2.output, by simp [World.setCell]; exact Nat.le_trans hb2.size hg.size, fun k hk hkp hkq => ?_, ?_⟩
    ·exact (Below.heap_setCell _ _ _ _ hkp).trans ((hg.block k (Nat.lt_of_lt_of_le hk hb2.size) (by simpa using hkq)).trans (hb2.block k hk))
    ·have := hb2.size; rcases hq1 with e | e <;> omega
end Go.Proofs.Ytlddccmgamlccaa.Us

set_option linter.unusedVariables false
set_option linter.unusedSimpArgs false
namespace Go.Proofs.Ytlddccmgamlccaa.Us
open Go Go.Proofs Go.RowKit Go.Lib Go.Proofs.YtlddccmgamlccaaW.PrintWords Go.Proofs.YtlddccmgamlccaaW.PrintLast Go.Proofs.YtlddccmgamlccaaW.PrintMore

/-- steps without those that have the level of the one ahead -/
def cpt (v : Int) : List (Int × Int) → List (Int × Int)
 | [] => []
 | s :: r => if s.2 = v then cpt v r else s :: cpt s.2 r
def compactL : List (Int × Int) → List (Int × Int)
 | [] => []
 | s :: r => s :: cpt s.2 r

set_option maxRecDepth 100000 in
set_option maxHeartbeats 1000000 in
theorem plain1_calls (a u b v : Int) (w : World) :
  Calls Try.prog 78 #[.agg #[.int .i64 a, .int .i64 u], .agg #[.int .i64 b, .int .i64 v]] w fun ev w' => ev = .returned (.bool (u == v)) ∧ Below w.heap.size w w' := by
 go_enter Try.func78, Try.ntmps78
 go_wp2
 go_ret
 exact ⟨rfl, (fun h => Below.alloc h h.size _) ((Below.refl _ w).alloc (Nat.le_refl _) _)⟩

/-- clear of elements of two cells each in a row that is known whole -/
theorem run_clear_row2 {P : Program} (w : World) (sT ty elem : TypeId) (z : Value) (g o n c : Nat) (cur : Array Value) (t : TypeId)
  (hu : P.underlying sT = some (.slice elem)) (hv : ∀ w, (zeroValue elem).run P w = .ok z w) (hz : z.cells.size = 2) (h1 : ∀ v ∈ (Builtin.zeroCells z.cells n).toList, v.oneCell' = true)
  (hg : w.heap[g]? = some (.cells cur t (0, 0))) (hn : 0 < n) (hfit : o + n * 2 ≤ cur.size) :
  (Builtin.clear_ #[sT] ty #[.slice (some ⟨g, o, none⟩) n c]).run P w =
   .ok (.tuple #[]) (w.setRow g (cur.toList.take o ++ (Builtin.zeroCells z.cells n).toList ++ cur.toList.drop (o + (Builtin.zeroCells z.cells n).toList.length)).toArray) := by
 have hst := run_storeCells_at P g o t (Builtin.zeroCells z.cells n).toList 0 cur w hg (by rw [Array.length_toList, size_zeroCells, hz]; simpa using hfit) h1
 obtain ⟨m, rfl⟩ : ∃ m, n = m + 1 := ⟨n - 1, by omega⟩
 simp only [Nat.add_zero] at hst
 simp [Builtin.clear_, run_underlying hu, hv, hst]

theorem grown_then {w w1 w2 : World} {q : Nat} (h : w.grownBy w1 (some q)) (k : Below w1.heap.size w1 w2) : w.grownBy w2 (some q) :=
 ⟨k.os.trans h.os, k.tape.trans h.tape, k.output.trans h.output, Nat.le_trans h.size k.size, fun i hi hne => (k.block i (Nat.lt_of_lt_of_le hi h.size)).trans (h.block i hi hne)⟩
theorem grown_set {w w1 : World} {q : Nat} (h : w.grownBy w1 (some q)) (o : Nat) (v : Value) : w.grownBy (w1.setCell ⟨q, o, none⟩ v) (some q) :=
 ⟨h.os, h.tape, h.output, by simp [World.setCell]; exact h.size, fun i hi hne => (Below.heap_setCell w1 ⟨q, o, none⟩ v i (fun e => hne (by rw [e]))).trans (h.block i hi hne)⟩
theorem row_set2 : ∀ (M : List (Int × Int)) (d1 d2 : Value) (D : List Value) (x y : Int),
  ((lvc M ++ d1 :: d2 :: D).toArray.setIfInBounds (M.length * 2) (.int .i64 x)).setIfInBounds (M.length * 2 + 1) (.int .i64 y) = (lvc (M ++ [(x, y)]) ++ D).toArray := fun M d1 d2 D x y => by
 have hl := lvc_length M
 rw [List.setIfInBounds_toArray, List.setIfInBounds_toArray]
 congr 1
 rw [List.set_append_right _ _ (by omega), List.set_append_right _ _ (by omega), show M.length * 2 - (lvc M).length = 0 by omega, show M.length * 2 + 1 - (lvc M).length = 1 by omega, lvc_append, List.append_assoc]
 rfl
theorem zvStep : ∀ w, (zeroValue 42).run Try.prog w = .ok (.agg #[.int .i64 0, .int .i64 0]) w := fun w => by
 obtain ⟨i0, hi0, hz0, hzs, hzb⟩ := info_parts infoStep
 simp [zeroValue, typeInfo, hi0, hz0]
theorem zero_one (n : Nat) : ∀ v ∈ (Builtin.zeroCells (Value.agg #[.int .i64 0, .int .i64 0]).cells n).toList, v.oneCell' = true := by
 intro v hv
 simp [Builtin.zeroCells, Value.cells] at hv
 obtain ⟨j, hj, rfl⟩ := hv
 have h2 : j % 2 = 0 ∨ j % 2 = 1 := by omega
 rcases h2 with h | h <;> simp [h, Value.oneCell']

set_option maxRecDepth 100000 in
set_option maxHeartbeats 8000000 in
theorem compact_calls (q c : Nat) (l : List (Int × Int)) (w : World) (hR : RowIs w q c l) (hn : l.length < 1099511627776) :
  Calls Try.prog 77 #[.slice (some ⟨q, 0, none⟩) l.length c, .func (.func 78) #[] #[]] w fun ev w' =>
   ev = .returned (.slice (some ⟨q, 0, none⟩) (compactL l).length c) ∧ RowIs w' q c (compactL l) ∧ w.grownBy w' (some q) := by
 have hlc : l.length ≤ c := hR.choose_spec.2.2
 obtain ⟨sp, hq0, hq1, hq2⟩ := id hR
 by_cases h2 : l.length < 2
 ·have e1 : decide ((l.length : Int) < 2) = true := by simp; omega
  have hcl : compactL l = l := by
   match l, h2 with
   | [], _ => rfl
   | [s], _ => rfl
  rw [hcl]
  clear hcl
  go_enter Try.func77, Try.ntmps77
  go_wp2
  go_ret
  exact ⟨rfl, hR, grown_of_below (Below.refl _ w) _⟩
 ·have e1 : decide ((l.length : Int) < 2) = false := by simp; omega
  go_enter Try.func77, Try.ntmps77
  go_wp2
  go_loopw [5] (fun v5 wr => ∃ k : Nat, v5 = .int .i64 (k : Int) ∧ 1 ≤ k ∧ k ≤ l.length ∧ (∀ h : k - 1 < l.length, compactL l = l.take k ++ cpt l[k - 1].2 (l.drop k)) ∧ Below w.heap.size w wr)
   (fun v5 wr => l.length - natV v5)
  case atStart => 
   refine ⟨1, rfl, Nat.le_refl _, by omega, fun h => ?_, Below.refl _ w⟩
   match l, h with
   | s :: r, _ => rfl
  case round =>
   obtain ⟨k, rfl, hk1, hkl, hcp, hB⟩ := hrel
   by_cases hlt : k < l.length
   ·have e2 : decide ((k : Int) < (l.length : Int)) = true := by simp; omega
    obtain ⟨x, y, hxy, g1, g2⟩ := (hR.below hB).at_ k hlt
    obtain ⟨x', y', hxy', g3, g4⟩ := (hR.below hB).at_ (k - 1) (by omega)
    have hk0 : IntKind.i64.wrap ((k : Int) - 1) = ((k - 1 : Nat) : Int) := by rw [IntKind.wrap_i64]; omega
    have hk9 : ((k - 1 : Nat) : Int) < (l.length : Int) := by omega
    have HC := Aside0.mk (hcp (by omega))
    clear hcp
    have hcell : ∀ (W : World) (M : List (Int × Int)) (i : Nat), W.heap[q]? = some (.cells (lvc M ++ (lvc l ++ sp).drop (2 * M.length)).toArray 42 (0, 0)) → M.length ≤ i → (h : i < l.length) → W.cell? ⟨q, i * 2, none⟩ = some (.int .i64 l[i].1) ∧ W.cell? ⟨q, i * 2 + 1, none⟩ = some (.int .i64 l[i].2) := fun W M i hW hM hi => by
     obtain ⟨a1, a2⟩ := lvc_at l i hi
     have hl := lvc_length l
     have hm := lvc_length M
     constructor
     ·refine (blk_cell hW (i * 2)).trans ?_
      rw [List.getElem?_toArray, List.getElem?_append_right (by omega), List.getElem?_drop, show 2 * M.length + (i * 2 - (lvc M).length) = i * 2 by omega, List.getElem?_append_left (by omega)]; exact a1
     ·refine (blk_cell hW (i * 2 + 1)).trans ?_
      rw [List.getElem?_toArray, List.getElem?_append_right (by omega), List.getElem?_drop, show 2 * M.length + (i * 2 + 1 - (lvc M).length) = i * 2 + 1 by omega, List.getElem?_append_left (by omega)]; exact a2
    by_cases hyy : y = y'
    ·have e3 : (y == y') = true := by simpa using hyy
     have HY := Aside0.mk (show ∀ h : k - 1 < l.length, l[k].2 = l[k - 1].2 by intro h; rw [hxy, hxy']; exact hyy)
     have HX := Aside0.mk hcell
     clear hcell hyy
     go_wp2
     go_region_held3 (fun w' => w'.cell? ⟨q, k * 2, none⟩ = some (.int .i64 x) ∧ w'.cell? ⟨q, k * 2 + 1, none⟩ = some (.int .i64 y) ∧ w'.cell? ⟨q, (k - 1) * 2, none⟩ = some (.int .i64 x') ∧ w'.cell? ⟨q, (k - 1) * 2 + 1, none⟩ = some (.int .i64 y')) (go_keep)
      (first | (go_at_call 78; refine (plain1_calls x y x' y' _).mono ?_; rintro ev w1 ⟨rfl, hb1⟩; have u1 := below_cell1 hb1 g1; have u2 := below_cell1 hb1 g2; have u3 := below_cell1 hb1 g3; have u4 := below_cell1 hb1 g4))
     have hkc : (k : Int) ≤ (c : Int) := by omega
     go_wp2
     go_loopw [5, 7] (fun v5 v7 wq => ∃ (j : Nat) (M : List (Int × Int)), v5 = .int .i64 (M.length : Int) ∧ v7 = .int .i64 (j : Int) ∧ 1 ≤ j ∧ k + j ≤ l.length ∧ k ≤ M.length ∧ M.length + 1 ≤ k + j ∧ (∀ h : k + j - 1 < l.length, compactL l = M ++ cpt l[k + j - 1].2 (l.drop (k + j))) ∧ wq.heap[q]? = some (.cells (lvc M ++ (lvc l ++ sp).drop (2 * M.length)).toArray 42 (0, 0)) ∧ w.grownBy wq (some q))
      (fun v5 v7 wq => l.length - k - natV v7)
     case atStart =>
      have hkk : (l.take k).length = k := by rw [List.length_take]; omega
      refine ⟨1, l.take k, by rw [hkk], rfl, Nat.le_refl _, by omega, by omega, by omega, fun h => ?_, ?_, grown_of_below (below_step (below_drew1 hB) hb1) _⟩
      ·have h1 := HC.out
       have h2 := HY.out (by omega)
       rw [List.drop_eq_getElem_cons hlt, cpt, if_pos h2, ← h2] at h1
       exact h1
      ·have hq9 := blk_below hq0 (below_step (below_drew1 hB) hb1)
       rw [hkk, lvc_take, Nat.mul_comm k 2, ← List.take_append_of_le_length (l₁ := lvc l) (l₂ := sp) (by rw [lvc_length]; omega), List.take_append_drop]
       exact hq9
     case round =>
      obtain ⟨j, M, rfl, rfl, hj1, hjl, hkM, hMj, hcm, hrow, hgr⟩ := hrel
      have HM := Aside0.mk hcm
      have HG := Aside0.mk hgr
      have HROW := Aside0.mk hrow
      clear hcm hgr
      by_cases hjlt : k + j < l.length
      ·have e4 : decide ((j : Int) < ((l.length - k : Nat) : Int)) = true := by simp; omega
       obtain ⟨x5, y5, hxy5⟩ : ∃ x5 y5, l[k + j] = (x5, y5) := ⟨_, _, rfl⟩
       obtain ⟨x6, y6, hxy6⟩ : ∃ x6 y6, l[k + j - 1] = (x6, y6) := ⟨_, _, rfl⟩
       have hf := blk_frozen hrow (M.length * 2)
       have hf1 := blk_frozen hrow (M.length * 2 + 1)
       obtain ⟨g5, g6⟩ := HX.out _ M (k + j) hrow (by omega) hjlt
       obtain ⟨g7, g8⟩ := HX.out _ M (k + j - 1) hrow (by omega) (by omega)
       rw [hxy5] at g5 g6
       rw [hxy6] at g7 g8
       rw [show (k + j) * 2 = k * 2 + j * 2 by omega] at g5 g6
       rw [show (k + j - 1) * 2 = k * 2 + (j - 1) * 2 by omega] at g7 g8
       dsimp only at g5 g6 g7 g8
       have hj0 : IntKind.i64.wrap ((j : Int) - 1) = ((j - 1 : Nat) : Int) := by rw [IntKind.wrap_i64]; omega
       have hj9 : ((j - 1 : Nat) : Int) < ((l.length - k : Nat) : Int) := by omega
       clear hrow
       by_cases hyy : y5 = y6
       ·have e5 : (y5 == y6) = true := by simpa using hyy
        have HE := Aside0.mk hyy
        clear hyy
        go_wp2
        go_region_held3 (fun w' => w'.cell? ⟨q, k * 2 + j * 2, none⟩ = some (.int .i64 x5) ∧ w'.cell? ⟨q, k * 2 + j * 2 + 1, none⟩ = some (.int .i64 y5) ∧ w'.cell? ⟨q, k * 2 + (j - 1) * 2, none⟩ = some (.int .i64 x6) ∧ w'.cell? ⟨q, k * 2 + (j - 1) * 2 + 1, none⟩ = some (.int .i64 y6)) (go_keep)
         (first | (go_at_call 78; refine (plain1_calls x5 y5 x6 y6 _).mono ?_; rintro ev w2 ⟨rfl, hb2⟩; have u5 := below_cell1 hb2 g5; have u6 := below_cell1 hb2 g6; have u7 := below_cell1 hb2 g7; have u8 := below_cell1 hb2 g8; have hr2 := blk_below (blk_drew HROW.out) hb2; have f9 := blk_frozen hr2 (M.length * 2); have f10 := blk_frozen hr2 (M.length * 2 + 1); have ⟨c9, c10⟩ := HX.out _ M M.length hr2 (Nat.le_refl _) (by omega); have HR2 := Aside0.mk hr2; clear hr2))
        go_wp2
        go_roundw
        case rel =>
         refine ⟨j + 1, M, rfl, by go_num, by omega, by omega, hkM, by omega, fun h => ?_, HR2.out, grown_then HG.out (show Below wr.heap.size wr w2 from (below_drew1 (Below.refl _ wr)).trans hb2)⟩
         have h1 := HM.out (by omega)
         have h2 : l[k + j].2 = l[k + j - 1].2 := by rw [hxy5, hxy6]; exact HE.out
         rw [List.drop_eq_getElem_cons hjlt, cpt, if_pos h2, ← h2] at h1
         exact h1
        case measure => simp [natV]; omega
       ·have e5 : (y5 == y6) = false := by simpa using hyy
        have HE := Aside0.mk hyy
        clear hyy
        have hml : (M.length : Int) < (l.length : Int) := by omega
        go_wp2
        go_region_held3 (fun w' => w'.cell? ⟨q, k * 2 + j * 2, none⟩ = some (.int .i64 x5) ∧ w'.cell? ⟨q, k * 2 + j * 2 + 1, none⟩ = some (.int .i64 y5) ∧ w'.cell? ⟨q, k * 2 + (j - 1) * 2, none⟩ = some (.int .i64 x6) ∧ w'.cell? ⟨q, k * 2 + (j - 1) * 2 + 1, none⟩ = some (.int .i64 y6)) (go_keep)
         (first | (go_at_call 78; refine (plain1_calls x5 y5 x6 y6 _).mono ?_; rintro ev w2 ⟨rfl, hb2⟩; have u5 := below_cell1 hb2 g5; have u6 := below_cell1 hb2 g6; have u7 := below_cell1 hb2 g7; have u8 := below_cell1 hb2 g8; have hr2 := blk_below (blk_drew HROW.out) hb2; have f9 := blk_frozen hr2 (M.length * 2); have f10 := blk_frozen hr2 (M.length * 2 + 1); have ⟨c9, c10⟩ := HX.out _ M M.length hr2 (Nat.le_refl _) (by omega); have HR2 := Aside0.mk hr2; clear hr2))
        go_wp2
        go_roundw
        case rel =>
         refine ⟨j + 1, M ++ [(x5, y5)], by rw [List.length_append]; go_num, by go_num, by omega, by omega, by rw [List.length_append]; omega, by rw [List.length_append, List.length_singleton]; omega, fun h => ?_, ?_, ?_⟩
         ·have h1 := HM.out (by omega)
          have h2 : ¬ l[k + j].2 = l[k + j - 1].2 := by rw [hxy5, hxy6]; exact HE.out
          rw [List.drop_eq_getElem_cons hjlt, cpt, if_neg h2] at h1
          rw [h1, List.append_assoc, hxy5]
          show M ++ (x5, y5) :: cpt y5 _ = M ++ (x5, y5) :: cpt l[k + j].2 _
          rw [hxy5]
          rfl
         ·have hD : ∃ d1 d2, (lvc l ++ sp).drop (2 * M.length) = d1 :: d2 :: (lvc l ++ sp).drop (2 * (M.length + 1)) := by
           have hl2 : (lvc l ++ sp).length = 2 * c := hq1
           refine ⟨(lvc l ++ sp)[2 * M.length]'(by omega), (lvc l ++ sp)[2 * M.length + 1]'(by omega), ?_⟩
           rw [List.drop_eq_getElem_cons (by omega), List.drop_eq_getElem_cons (i := 2 * M.length + 1) (by omega)]
           rfl
          obtain ⟨d1, d2, hD⟩ := hD
          have h3 := HR2.out
          rw [hD] at h3
          have h4 := blk_put (blk_put h3 (M.length * 2) (.int .i64 x5) rfl) (M.length * 2 + 1) (.int .i64 y5) rfl
          rw [List.length_append, List.length_singleton, ← row_set2]
          exact h4
         ·refine grown_set (grown_set (grown_then HG.out (show Below wr.heap.size wr w2 from (below_drew1 (Below.refl _ wr)).trans hb2)) _ _) _ _
        case measure => simp [natV]; omega
      ·obtain rfl : j = l.length - k := by omega
       have e4 : decide (((l.length - k : Nat) : Int) < ((l.length - k : Nat) : Int)) = false := by simp
       have hclr := run_clear_row2 (P := Try.prog) wr 39 0 42 (.agg #[.int .i64 0, .int .i64 0]) q (M.length * 2) (l.length - M.length) (c - M.length) _ 42 Try.underlying39 zvStep rfl (zero_one _) hrow (by omega) (by have e := hq1; rw [List.length_append, lvc_length] at e; rw [List.size_toArray, List.length_append, List.length_drop, lvc_length, hq1]; omega)
       have hMc : (M.length : Int) ≤ (c : Int) := by omega
       have hMl : (M.length : Int) ≤ (l.length : Int) := by omega
       obtain ⟨ROW, hROW⟩ : ∃ R, ((lvc M ++ (lvc l ++ sp).drop (2 * M.length)).toArray.toList.take (M.length * 2) ++ (Builtin.zeroCells (Value.agg #[.int .i64 0, .int .i64 0]).cells (l.length - M.length)).toList ++ (lvc M ++ (lvc l ++ sp).drop (2 * M.length)).toArray.toList.drop (M.length * 2 + (Builtin.zeroCells (Value.agg #[.int .i64 0, .int .i64 0]).cells (l.length - M.length)).toList.length)) = R := ⟨_, rfl⟩
       rw [hROW] at hclr
       have HRW := Aside0.mk hROW
       clear hROW hrow
       go_wp2
       go_ret
       have h1 := HM.out (by omega)
       rw [List.drop_of_length_le (by omega), cpt, List.append_nil] at h1
       rw [h1]
       have hg := HG.out
       obtain ⟨Zr, hZr⟩ : ∃ Z : List Value, (Builtin.zeroCells (Value.agg #[.int .i64 0, .int .i64 0]).cells (l.length - M.length)).toList = Z := ⟨_, rfl⟩
       have hZl : Zr.length = (l.length - M.length) * 2 := by rw [← hZr, Array.length_toList, size_zeroCells]; rfl
       have hm := lvc_length M
       have hL : ROW = lvc M ++ (Zr ++ ((lvc l ++ sp).drop (2 * M.length)).drop (Zr.length)) := by
        have e := HRW.out
        rw [hZr] at e
        rw [← e]
        show (lvc M ++ (lvc l ++ sp).drop (2 * M.length)).take (M.length * 2) ++ Zr ++ (lvc M ++ (lvc l ++ sp).drop (2 * M.length)).drop (M.length * 2 + Zr.length) = _
        rw [show M.length * 2 = (lvc M).length by omega, List.take_left, List.drop_append, List.drop_of_length_le (by omega), List.nil_append, List.append_assoc, show (lvc M).length + Zr.length - (lvc M).length = Zr.length by omega]
       refine ⟨rfl, ⟨Zr ++ ((lvc l ++ sp).drop (2 * M.length)).drop (Zr.length), ?_, ?_, by omega⟩, ?_⟩
       ·rw [← hL]; exact setRow_heap wr q _ _ 42 _ HROW.out
       ·have e := hq1
        rw [List.length_append, lvc_length] at e
        rw [List.length_append, List.length_append, List.length_drop, List.length_drop, lvc_length, hq1, hZl]; omega
       ·exact ⟨hg.os, hg.tape, hg.output, by simp [World.setRow]; exact hg.size, fun i hi hne => (setRow_other wr q i _ (fun e => hne (by rw [e]))).trans (hg.block i hi hne)⟩
    ·have e3 : (y == y') = false := by simpa using hyy
     have HY := Aside0.mk (show ∀ h : k - 1 < l.length, l[k].2 ≠ l[k - 1].2 by intro h; rw [hxy, hxy']; exact hyy)
     clear hcell hyy
     go_wp2
     go_region_held3 (fun w' => w'.cell? ⟨q, k * 2, none⟩ = some (.int .i64 x) ∧ w'.cell? ⟨q, k * 2 + 1, none⟩ = some (.int .i64 y) ∧ w'.cell? ⟨q, (k - 1) * 2, none⟩ = some (.int .i64 x') ∧ w'.cell? ⟨q, (k - 1) * 2 + 1, none⟩ = some (.int .i64 y')) (go_keep)
      (first | (go_at_call 78; refine (plain1_calls x y x' y' _).mono ?_; rintro ev w1 ⟨rfl, hb1⟩; have u1 := below_cell1 hb1 g1; have u2 := below_cell1 hb1 g2; have u3 := below_cell1 hb1 g3; have u4 := below_cell1 hb1 g4))
     go_wp2
     go_roundw
     case rel =>
      refine ⟨k + 1, by go_num, by omega, by omega, fun h => ?_, below_step (below_drew1 hB) hb1⟩
      have h1 := HC.out
      have h2 := HY.out (by omega)
      rw [List.drop_eq_getElem_cons hlt, cpt, if_neg h2] at h1
      rw [List.take_add_one, List.getElem?_eq_getElem hlt, List.append_assoc]
      exact h1
     case measure => simp [natV]; omega
   ·obtain rfl : k = l.length := by omega
    have e2 : decide ((l.length : Int) < (l.length : Int)) = false := by simp
    have HC := Aside0.mk (hcp (by omega))
    clear hcp
    go_wp2
    go_ret
    have h1 := HC.out
    rw [List.take_of_length_le (Nat.le_refl _), List.drop_of_length_le (Nat.le_refl _), cpt, List.append_nil] at h1
    rw [h1]
    exact ⟨rfl, hR.below hB, grown_of_below hB _⟩
end Go.Proofs.Ytlddccmgamlccaa.Us
