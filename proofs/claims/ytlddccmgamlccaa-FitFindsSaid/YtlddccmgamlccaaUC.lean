/- A part of the proofs over usage and fit (UC): contracts of the program's functions and plain laws of levels. Conditions: those that each theorem states. -/
import Derived.Test.YtlddccmgamlccaaUB
import Derived.Test.YtlddccmgamlccaaUJoin
import Derived.Test.YtlddccmgamlccaaUJ
import Derived.RangeFuncFrom
import Derived.RangeFuncCalls
import Derived.RangeFuncLeaves
import Derived.RangeFuncBound
import Derived.Shelf.Abstract
import Derived.WalkKit
import Derived.OwnWalkIn
import Derived.TacticsInMore
import Derived.LoopNIn
import Derived.LoopIn
import Derived.WalkMore
import Derived.RangeFuncNested
set_option linter.unusedVariables false
set_option linter.unusedSimpArgs false
namespace Go.Proofs.Ytlddccmgamlccaa.Us
open Go Go.Proofs Go.RowKit Go.Lib Go.Proofs.YtlddccmgamlccaaW.PrintWords Go.Proofs.YtlddccmgamlccaaW.PrintLast Go.Proofs.YtlddccmgamlccaaW.PrintMore
open Go.Proofs.Ytlddccmgamlccaa.PJoin (S25 k25 z25 k25_mkM info25)

/-- levels, made or of nobody -/
def FreeIs (w : World) (fv : Value) (l : List (Int × Int)) : Prop :=
 (fv = .pointer none ∧ l = [(0, 0)]) ∨ ∃ p q c, fv = .pointer (some ⟨p, 0, none⟩) ∧ StepsIs w p q c l
theorem FreeIs.below {w w1 : World} {fv : Value} {l : List (Int × Int)} (h : FreeIs w fv l) (hb : Below w.heap.size w w1) : FreeIs w1 fv l := by
 rcases h with h | ⟨p, q, c, h1, h2⟩
 ·exact .inl h
 ·exact .inr ⟨p, q, c, h1, h2.below hb⟩
theorem steps_free (fv : Value) (l : List (Int × Int)) (w : World) (h : FreeIs w fv l) (hL : Lev l) :
  Calls Try.prog 36 #[fv] w fun ev w' => ∃ p q c, ev = .returned (.pointer (some ⟨p, 0, none⟩)) ∧ StepsIs w' p q c l ∧ Below w.heap.size w w' := by
 rcases h with ⟨rfl, rfl⟩ | ⟨p, q, c, rfl, hS⟩
 ·refine (steps_nil w).mono ?_
  rintro ev w' ⟨p, q, c, rfl, S, _, _, hb⟩
  exact ⟨p, q, c, rfl, S, hb⟩
 ·refine (steps_calls p q c l w hS hL).mono ?_
  rintro ev w' ⟨rfl, hb⟩
  exact ⟨p, q, c, rfl, hS.below hb, hb⟩

theorem mx_max (a b : Int) : mx a b = max a b := by unfold mx; split <;> omega

/-- where the step behind begins -/
def endL (l : List (Int × Int)) (i : Nat) : Int := match l[i + 1]? with
 | some s => s.1
 | none => 1099511627776
/-- the spans of the first steps, those that are wide -/
def wideN (l : List (Int × Int)) (t v : Int) : Nat → List S25
 | 0 => []
 | i + 1 => match l[i]? with
  | some s => if s.2 ≥ v then wideN l t v i ++ [⟨mx s.1 (clT t), endL l i⟩] else wideN l t v i
  | none => wideN l t v i
theorem wideN_len (l : List (Int × Int)) (t v : Int) : ∀ i, (wideN l t v i).length ≤ i
 | 0 => Nat.le_refl _
 | i + 1 => by
  have := wideN_len l t v i
  unfold wideN
  split
  ·split
   ·simp; omega
   ·omega
  ·omega
theorem RowIs.grown {w w1 : World} {q c : Nat} {l : List (Int × Int)} {o : Option Nat} (h : RowIs w q c l) (g : w.grownBy w1 o) (hn : o ≠ some q) : RowIs w1 q c l := by
 obtain ⟨sp, h1, h2⟩ := h
 exact ⟨sp, (g.block q (blk_lt h1) (fun e => hn e.symm)).trans h1, h2⟩
--DEFS
def wideR.T10 : Bool × List (List Nat × List Nat) := (true, [([], []), ([], []), ([1], [1]), ([], []), ([3], [3]), ([2, 4], [2, 4]), ([], []), ([5, 6], [5, 6]), ([7], [7]), ([0, 8, 4], [0, 8]), ([9, 9, 0, 1, 2, 3, 4, 5, 6, 7, 8, 9], [0, 9])])
def wideR.B10 : List Nat := [0, 0, 2, 0, 8, 30, 0, 126, 254, 511, 1023]
theorem wideR.tab10 : rtab .any (opsOf Try.f59 10) = wideR.T10 := by kernel_rfl
theorem wideR.bits10 : waitsOk wideR.T10.2 wideR.B10 = true := by kernel_rfl
--END
set_option maxRecDepth 100000 in
set_option maxHeartbeats 8000000 in
theorem wideLoop (fv : Value) (l : List (Int × Int)) (t v : Int) (w : World) (hF : FreeIs w fv l) (hL : Lev l) (R : List S25)
  (hJ : ∀ v7 w1, Kd.R k25 25 w1 w.heap.size (fun _ => True) v7 (wideN l t v l.length) → Below w.heap.size w w1 → Calls Try.prog 72 #[v7] w1 fun e w' => ∃ v0_ : Value, e = .returned (v0_) ∧ Kd.R k25 25 w' w1.heap.size (fun _ => True) v0_ R ∧ Below w1.heap.size w1 w') :
  Calls Try.prog 59 #[fv, .int .i64 t, .int .i64 v] w fun e w' => ∃ v0_ : Value, e = .returned v0_ ∧ Kd.R k25 25 w' w.heap.size (fun _ => True) v0_ R ∧ Below w.heap.size w w' := by
 have HJ := Aside0.mk hJ
 have HF := Aside0.mk hF
 have hlen := hL.len
 clear hJ hF
 go_enter Try.func59, Try.ntmps59
 go_wp2_with (first
  | (go_at_call 36; refine (steps_free fv l _ HF.out hL).mono ?_; rintro ev w1 ⟨p, q, c, rfl, S1, hb1⟩; have HS1 := Aside0.mk S1; clear S1)
  | (go_at_call 13; refine (list_calls p q c l _ HS1.out hL).mono ?_; rintro ev w2 ⟨q', c', rfl, R2, hc2, hq2, hb2⟩))
 have HB2 := Aside0.mk (below_step hb1 hb2)
 have HR2 := Aside0.mk R2
 have hqw : w.heap.size ≤ q' := Nat.le_trans hb1.size hq2
 clear hb1 hb2 R2
 go_loopw [7, 17] (fun v7 v17 wr => ∃ i : Nat, v17 = .int .i64 (i : Int) ∧ i ≤ l.length ∧ Kd.R k25 25 wr w.heap.size (fun k => k ≠ q') v7 (wideN l t v i) ∧ RowIs wr q' c' l ∧ Below w.heap.size w wr)
  (fun v7 v17 wr => l.length - natV v17)
 case atStart => exact ⟨0, rfl, Nat.zero_le _, Kd.R_nil _ _ _ _ _, HR2.out, HB2.out⟩
 case round =>
  obtain ⟨i, rfl, hi, hRr, hRow, hBr⟩ := hrel
  by_cases hlt : i < l.length
  ·have e1 : decide ((i : Int) < (l.length : Int)) = true := by simp; omega
   obtain ⟨x, y, hxy, gx, gy⟩ := hRow.at_ i hlt
   have hw1 : IntKind.i64.wrap ((i : Int) + 1) = (i : Int) + 1 := by rw [IntKind.wrap_i64]; omega
   have HRr := Aside0.mk hRr
   have HRow := Aside0.mk hRow
   have HBr := Aside0.mk hBr
   have HXY := Aside0.mk hxy
   clear hRr hRow hBr hxy
   have hba : Below wr.heap.size wr (wr.alloc (.cells #[.int .i64 x, .int .i64 y] 42 (0, 0))) := (Below.refl _ wr).alloc (Nat.le_refl _) _
   have HBa := Aside0.mk (below_step HBr.out hba)
   have HRa := Aside0.mk (Kd.R_below HRr.out hba)
   obtain ⟨T, hT⟩ : ∃ T, clT t = T := ⟨_, rfl⟩
   have hwn : wideN l t v (i + 1) = if y ≥ v then wideN l t v i ++ [⟨max x T, endL l i⟩] else wideN l t v i := by
    rw [wideN, List.getElem?_eq_getElem hlt, HXY.out, ← hT]
    simp only [mx_max]
   by_cases hl2 : i + 1 < l.length
   ·skip
    have e2 : decide ((i : Int) + 1 < (l.length : Int)) = true := by simp; omega
    obtain ⟨x2, y2, hxy2, gx2, gy2⟩ := HRow.out.at_ (i + 1) hl2
    have hen : endL l i = x2 := by unfold endL; rw [List.getElem?_eq_getElem hl2, hxy2]
    have hi1 : (0 : Int) ≤ (i : Int) + 1 := by omega
    have htn : ((i : Int) + 1).toNat = i + 1 := by omega
    have gx3 : (wr.alloc (.cells #[.int .i64 x, .int .i64 y] 42 (0, 0))).cell? ⟨q', (i + 1) * 2, none⟩ = some (.int .i64 x2) := below_cell1 ((Below.refl _ wr).alloc (Nat.le_refl _) _) gx2
    clear hxy2
    rw [hen] at hwn
    clear hen
    by_cases hyv : y ≥ v
    ·have HWN := Aside0.mk (hwn.trans (if_pos hyv))
     clear hwn
     have e3 : decide (y ≥ v) = true := by simp; omega
     go_wp2
     have s0 := (blk_cell (blk_new wr (.cells #[.int .i64 x, .int .i64 y] 42 (0, 0))) 0).trans rfl
     refine start_ (n := 11) (S := fun w' => w'.cell? ⟨wr.heap.size, 0, none⟩ = some (.int .i64 x)) (ds := []) #[false, false, false, false, false, false, false, false, false, false, false] (by kernel_rfl) rfl rfl (s0) (fun hHeld => ?_); refine with_tabW wideR.tab10 wideR.bits10 (fun HT_ HW_ => ?_)
     refine pure_ (i := 0) (N := some 37) (v := ?_) (a' := ?_) #[true, false, false, false, false, false, false, false, false, false, false] rfl rfl (any_of HT_.out (by kernel_rfl)) (fun _ _ _ h => h) (Or.inl ⟨by rfl, ?_⟩) ?_ ?_
     rotate_left
     ·intro w'
      go_simp
      with_reducible rfl
     rotate_left
     ·simp only [Act.put, List.setIfInBounds_toArray, List.set_cons_zero, List.set_cons_succ, i64_w, i32_w]
      rfl
     refine pure_ (i := 1) (N := some 38) (v := ?_) (a' := ?_) #[true, true, false, false, false, false, false, false, false, false, false] rfl rfl (any_of HT_.out (by kernel_rfl)) (fun _ _ _ h => h) (Or.inl ⟨by rfl, ?_⟩) ?_ ?_
     rotate_left
     ·intro w'
      go_simp
      with_reducible rfl
     rotate_left
     ·simp only [Act.put, List.setIfInBounds_toArray, List.set_cons_zero, List.set_cons_succ, i64_w, i32_w]
      rfl
     refine pure_ (i := 3) (N := some 40) (v := ?_) (a' := ?_) #[true, true, false, true, false, false, false, false, false, false, false] rfl rfl (any_of HT_.out (by kernel_rfl)) (fun _ _ _ h => h) (Or.inl ⟨by rfl, ?_⟩) ?_ ?_
     rotate_left
     ·intro w'
      go_simp
      with_reducible rfl
     rotate_left
     ·simp only [Act.put, List.setIfInBounds_toArray, List.set_cons_zero, List.set_cons_succ, i64_w, i32_w]
      rfl
     refine pure_ (i := 6) (N := some 43) (v := ?_) (a' := ?_) #[true, true, false, true, false, false, true, false, false, false, false] rfl rfl (any_of HT_.out (by kernel_rfl)) (fun _ _ _ h => h) (Or.inl ⟨by rfl, ?_⟩) ?_ ?_
     rotate_left
     ·intro w'
      go_simp
      with_reducible rfl
     rotate_left
     ·simp only [Act.put, List.setIfInBounds_toArray, List.set_cons_zero, List.set_cons_succ, i64_w, i32_w]
      rfl
     refine take_ (i := 2) (N := some 39) (v := ?_) (a' := ?_) #[true, true, true, true, false, false, true, false, false, false, false] rfl rfl (take_ofW HT_.out HW_.out (by kernel_rfl)) (fun _ _ _ h => h) (Or.inl ⟨by rfl, ?_⟩) hHeld ?_ ?_
     rotate_left
     ·rintro w' s0
      go_simp
      with_reducible rfl
     rotate_left
     ·simp only [Act.put, List.setIfInBounds_toArray, List.set_cons_zero, List.set_cons_succ, i64_w, i32_w]
      rfl
     refine one_ (i := 4) (N := some 41) #[true, true, true, true, true, false, true, false, false, false, false] rfl rfl (one_of HT_.out (by kernel_rfl)) (by decide) (fun K hK => ?_)
     refine goes_ Try.func8 (by kernel_rfl) rfl #[.int .i64 t] (by rfl) rfl rfl (by (try simp only [List.map_toArray, List.map_cons, List.map_nil]); first | done | rfl | (simp only [List.length_drop, List.length_take]; rfl)) ?_
     with_reducible refine (clamp_calls t _).mono ?_
     rintro ev w5 ⟨rfl, hb5⟩
     rw [hT]
     have u0 := below_cell1 hb5 s0
     have hb6 := below_step (below_drew1 HBa.out) hb5
     have R6 := Kd.R_below (Kd.R_drew HRa.out) hb5
     have Row6 := (HRow.out.below hba).below ((below_drew1 (Below.refl _ _)).trans hb5)
     refine ⟨_, rfl, ?_⟩
     refine hK.out _ _ (u0) (fun hHeld => ?_)
     clear hK K
     refine norm_ (a' := ?_) ?_ ?_
     rotate_left
     ·show Act.put _ (some 41) _ = _
      simp only [Act.put, List.setIfInBounds_toArray, List.set_cons_zero, List.set_cons_succ, i64_w, i32_w]
      rfl
     refine pure_ (i := 5) (N := some 42) (v := ?_) (a' := ?_) #[true, true, true, true, true, true, true, false, false, false, false] rfl rfl (any_of HT_.out (by kernel_rfl)) (fun _ _ _ h => h) (Or.inl ⟨by rfl, ?_⟩) ?_ ?_
     rotate_left
     ·intro w'
      go_simp
      with_reducible rfl
     rotate_left
     ·simp only [Act.put, List.setIfInBounds_toArray, List.set_cons_zero, List.set_cons_succ, i64_w, i32_w]
      rfl
     refine pure_ (i := 7) (N := some 44) (v := ?_) (a' := ?_) #[true, true, true, true, true, true, true, true, false, false, false] rfl rfl (any_of HT_.out (by kernel_rfl)) (fun _ _ _ h => h) (Or.inl ⟨by rfl, ?_⟩) ?_ ?_
     rotate_left
     ·intro w'
      go_simp
      with_reducible rfl
     rotate_left
     ·simp only [Act.put, List.setIfInBounds_toArray, List.set_cons_zero, List.set_cons_succ, i64_w, i32_w]
      rfl
     refine one_ (i := 8) (N := some 45) #[true, true, true, true, true, true, true, true, true, false, false] rfl rfl (one_of HT_.out (by kernel_rfl)) (by decide) (fun K hK => ?_)
     refine value_ (w1 := ?_) (v := ?_) (by rfl) rfl ?_ ?_
     rotate_left 2
     ·go_simp
      constructor
      ·rfl
      ·rfl
     have u1 := below_cell1 ((Below.refl _ w5).alloc (Nat.le_refl _) (.cells #[.int .i64 (max x T), .int .i64 (x2)] 25 (0, 0))) u0
     refine hK.out _ _ (u1) (fun hHeld => ?_)
     clear hK K
     refine norm_ (a' := ?_) ?_ ?_
     rotate_left
     ·show Act.put _ (some 45) _ = _
      simp only [Act.put, List.setIfInBounds_toArray, List.set_cons_zero, List.set_cons_succ, i64_w, i32_w]
      rfl
     refine one_ (i := 9) (N := some 46) #[true, true, true, true, true, true, true, true, true, true, false] rfl rfl (one_of HT_.out (by kernel_rfl)) (by decide) (fun K hK => ?_)
     refine Kd.R_append_step k25 (w0 := w) w.heap.size (by rfl) (.tmp 37) (.tmp 45) 50 25 (.agg #[.int .i64 0, .int .i64 0]) 16 rfl Try.underlying50 info25 rfl (by decide) (by omega) u7 (wideN l t v i) ⟨max x T, x2⟩ [.int .i64 (max x T), .int .i64 (x2)] (fun k => k ≠ q') (fun _ => False) rfl rfl (k25_mkM _ _ _ ⟨max x T, x2⟩) (fun _ hk => hk.elim) (fun k hk e => by have := blk_lt Row6.choose_spec.1; omega) R6 hb6 hb6.size (by have := wideN_len l t v i; omega) ?_
     intro v8 w8 ho hb8 hg8 hat
     have hne8 : u7.ownBlock ≠ some q' := fun e => HRr.out.1 q' e rfl
     have n5 := blk_below (show (wr.alloc (.cells #[.int .i64 x, .int .i64 y] 42 (0, 0))).drew.heap[wr.heap.size]? = some (.cells #[.int .i64 x, .int .i64 y] 42 (0, 0)) from blk_new wr (.cells #[.int .i64 x, .int .i64 y] 42 (0, 0))) hb5
     have n8 := (hg8.block wr.heap.size (blk_lt n5) (fun e => by have := ((Kd.R_bound HRr.out).1 wr.heap.size e.symm).2.2.1; omega)).trans n5
     have u2 : w8.cell? ⟨wr.heap.size, 0, none⟩ = some (.int .i64 x) := (blk_cell n8 0).trans rfl
     refine hK.out _ _ (u2) (fun hHeld => ?_)
     clear hK K
     refine norm_ (a' := ?_) ?_ ?_
     rotate_left
     ·show Act.put _ (some 46) _ = _
      simp only [Act.put, List.setIfInBounds_toArray, List.set_cons_zero, List.set_cons_succ, i64_w, i32_w]
      rfl
     refine pure_ (i := 10) (N := some 7) (v := ?_) (a' := ?_) #[true, true, true, true, true, true, true, true, true, true, true] rfl rfl (any_of HT_.out (by kernel_rfl)) (fun _ _ _ h => h) (Or.inl ⟨by rfl, ?_⟩) ?_ ?_
     rotate_left
     ·intro w'
      go_simp
      with_reducible rfl
     rotate_left
     ·simp only [Act.put, List.setIfInBounds_toArray, List.set_cons_zero, List.set_cons_succ, i64_w, i32_w]
      rfl
     refine done_ (done_of HT_.out (by kernel_rfl)) ?_
     go_wp2
     go_roundw
     case rel =>
      refine ⟨i + 1, by go_num, by omega, ?_, ?_, ?_⟩
      ·rw [HWN.out]; exact ho
      ·exact Row6.grown hg8 hne8
      ·exact hb8
     case measure => simp [natV]; omega
    ·have HWN := Aside0.mk (hwn.trans (if_neg hyv))
     clear hwn
     have e3 : decide (y ≥ v) = false := by simp; omega
     go_wp2
     go_roundw
     case rel =>
      refine ⟨i + 1, by go_num, by omega, ?_, ?_, ?_⟩
      ·rw [HWN.out]; exact HRa.out
      ·exact HRow.out.below hba
      ·exact HBa.out
     case measure => simp [natV]; omega
   ·skip
    have e2 : decide ((i : Int) + 1 < (l.length : Int)) = false := by simp; omega
    have hen : endL l i = 1099511627776 := by unfold endL; rw [List.getElem?_eq_none (by omega)]
    rw [hen] at hwn
    clear hen
    by_cases hyv : y ≥ v
    ·have HWN := Aside0.mk (hwn.trans (if_pos hyv))
     clear hwn
     have e3 : decide (y ≥ v) = true := by simp; omega
     go_wp2
     have s0 := (blk_cell (blk_new wr (.cells #[.int .i64 x, .int .i64 y] 42 (0, 0))) 0).trans rfl
     refine start_ (n := 11) (S := fun w' => w'.cell? ⟨wr.heap.size, 0, none⟩ = some (.int .i64 x)) (ds := []) #[false, false, false, false, false, false, false, false, false, false, false] (by kernel_rfl) rfl rfl (s0) (fun hHeld => ?_); refine with_tabW wideR.tab10 wideR.bits10 (fun HT_ HW_ => ?_)
     refine pure_ (i := 0) (N := some 37) (v := ?_) (a' := ?_) #[true, false, false, false, false, false, false, false, false, false, false] rfl rfl (any_of HT_.out (by kernel_rfl)) (fun _ _ _ h => h) (Or.inl ⟨by rfl, ?_⟩) ?_ ?_
     rotate_left
     ·intro w'
      go_simp
      with_reducible rfl
     rotate_left
     ·simp only [Act.put, List.setIfInBounds_toArray, List.set_cons_zero, List.set_cons_succ, i64_w, i32_w]
      rfl
     refine pure_ (i := 1) (N := some 38) (v := ?_) (a' := ?_) #[true, true, false, false, false, false, false, false, false, false, false] rfl rfl (any_of HT_.out (by kernel_rfl)) (fun _ _ _ h => h) (Or.inl ⟨by rfl, ?_⟩) ?_ ?_
     rotate_left
     ·intro w'
      go_simp
      with_reducible rfl
     rotate_left
     ·simp only [Act.put, List.setIfInBounds_toArray, List.set_cons_zero, List.set_cons_succ, i64_w, i32_w]
      rfl
     refine pure_ (i := 3) (N := some 40) (v := ?_) (a' := ?_) #[true, true, false, true, false, false, false, false, false, false, false] rfl rfl (any_of HT_.out (by kernel_rfl)) (fun _ _ _ h => h) (Or.inl ⟨by rfl, ?_⟩) ?_ ?_
     rotate_left
     ·intro w'
      go_simp
      with_reducible rfl
     rotate_left
     ·simp only [Act.put, List.setIfInBounds_toArray, List.set_cons_zero, List.set_cons_succ, i64_w, i32_w]
      rfl
     refine pure_ (i := 6) (N := some 43) (v := ?_) (a' := ?_) #[true, true, false, true, false, false, true, false, false, false, false] rfl rfl (any_of HT_.out (by kernel_rfl)) (fun _ _ _ h => h) (Or.inl ⟨by rfl, ?_⟩) ?_ ?_
     rotate_left
     ·intro w'
      go_simp
      with_reducible rfl
     rotate_left
     ·simp only [Act.put, List.setIfInBounds_toArray, List.set_cons_zero, List.set_cons_succ, i64_w, i32_w]
      rfl
     refine take_ (i := 2) (N := some 39) (v := ?_) (a' := ?_) #[true, true, true, true, false, false, true, false, false, false, false] rfl rfl (take_ofW HT_.out HW_.out (by kernel_rfl)) (fun _ _ _ h => h) (Or.inl ⟨by rfl, ?_⟩) hHeld ?_ ?_
     rotate_left
     ·rintro w' s0
      go_simp
      with_reducible rfl
     rotate_left
     ·simp only [Act.put, List.setIfInBounds_toArray, List.set_cons_zero, List.set_cons_succ, i64_w, i32_w]
      rfl
     refine one_ (i := 4) (N := some 41) #[true, true, true, true, true, false, true, false, false, false, false] rfl rfl (one_of HT_.out (by kernel_rfl)) (by decide) (fun K hK => ?_)
     refine goes_ Try.func8 (by kernel_rfl) rfl #[.int .i64 t] (by rfl) rfl rfl (by (try simp only [List.map_toArray, List.map_cons, List.map_nil]); first | done | rfl | (simp only [List.length_drop, List.length_take]; rfl)) ?_
     with_reducible refine (clamp_calls t _).mono ?_
     rintro ev w5 ⟨rfl, hb5⟩
     rw [hT]
     have u0 := below_cell1 hb5 s0
     have hb6 := below_step (below_drew1 HBa.out) hb5
     have R6 := Kd.R_below (Kd.R_drew HRa.out) hb5
     have Row6 := (HRow.out.below hba).below ((below_drew1 (Below.refl _ _)).trans hb5)
     refine ⟨_, rfl, ?_⟩
     refine hK.out _ _ (u0) (fun hHeld => ?_)
     clear hK K
     refine norm_ (a' := ?_) ?_ ?_
     rotate_left
     ·show Act.put _ (some 41) _ = _
      simp only [Act.put, List.setIfInBounds_toArray, List.set_cons_zero, List.set_cons_succ, i64_w, i32_w]
      rfl
     refine pure_ (i := 5) (N := some 42) (v := ?_) (a' := ?_) #[true, true, true, true, true, true, true, false, false, false, false] rfl rfl (any_of HT_.out (by kernel_rfl)) (fun _ _ _ h => h) (Or.inl ⟨by rfl, ?_⟩) ?_ ?_
     rotate_left
     ·intro w'
      go_simp
      with_reducible rfl
     rotate_left
     ·simp only [Act.put, List.setIfInBounds_toArray, List.set_cons_zero, List.set_cons_succ, i64_w, i32_w]
      rfl
     refine pure_ (i := 7) (N := some 44) (v := ?_) (a' := ?_) #[true, true, true, true, true, true, true, true, false, false, false] rfl rfl (any_of HT_.out (by kernel_rfl)) (fun _ _ _ h => h) (Or.inl ⟨by rfl, ?_⟩) ?_ ?_
     rotate_left
     ·intro w'
      go_simp
      with_reducible rfl
     rotate_left
     ·simp only [Act.put, List.setIfInBounds_toArray, List.set_cons_zero, List.set_cons_succ, i64_w, i32_w]
      rfl
     refine one_ (i := 8) (N := some 45) #[true, true, true, true, true, true, true, true, true, false, false] rfl rfl (one_of HT_.out (by kernel_rfl)) (by decide) (fun K hK => ?_)
     refine value_ (w1 := ?_) (v := ?_) (by rfl) rfl ?_ ?_
     rotate_left 2
     ·go_simp
      constructor
      ·rfl
      ·rfl
     have u1 := below_cell1 ((Below.refl _ w5).alloc (Nat.le_refl _) (.cells #[.int .i64 (max x T), .int .i64 (1099511627776)] 25 (0, 0))) u0
     refine hK.out _ _ (u1) (fun hHeld => ?_)
     clear hK K
     refine norm_ (a' := ?_) ?_ ?_
     rotate_left
     ·show Act.put _ (some 45) _ = _
      simp only [Act.put, List.setIfInBounds_toArray, List.set_cons_zero, List.set_cons_succ, i64_w, i32_w]
      rfl
     refine one_ (i := 9) (N := some 46) #[true, true, true, true, true, true, true, true, true, true, false] rfl rfl (one_of HT_.out (by kernel_rfl)) (by decide) (fun K hK => ?_)
     refine Kd.R_append_step k25 (w0 := w) w.heap.size (by rfl) (.tmp 37) (.tmp 45) 50 25 (.agg #[.int .i64 0, .int .i64 0]) 16 rfl Try.underlying50 info25 rfl (by decide) (by omega) u7 (wideN l t v i) ⟨max x T, 1099511627776⟩ [.int .i64 (max x T), .int .i64 (1099511627776)] (fun k => k ≠ q') (fun _ => False) rfl rfl (k25_mkM _ _ _ ⟨max x T, 1099511627776⟩) (fun _ hk => hk.elim) (fun k hk e => by have := blk_lt Row6.choose_spec.1; omega) R6 hb6 hb6.size (by have := wideN_len l t v i; omega) ?_
     intro v8 w8 ho hb8 hg8 hat
     have hne8 : u7.ownBlock ≠ some q' := fun e => HRr.out.1 q' e rfl
     have n5 := blk_below (show (wr.alloc (.cells #[.int .i64 x, .int .i64 y] 42 (0, 0))).drew.heap[wr.heap.size]? = some (.cells #[.int .i64 x, .int .i64 y] 42 (0, 0)) from blk_new wr (.cells #[.int .i64 x, .int .i64 y] 42 (0, 0))) hb5
     have n8 := (hg8.block wr.heap.size (blk_lt n5) (fun e => by have := ((Kd.R_bound HRr.out).1 wr.heap.size e.symm).2.2.1; omega)).trans n5
     have u2 : w8.cell? ⟨wr.heap.size, 0, none⟩ = some (.int .i64 x) := (blk_cell n8 0).trans rfl
     refine hK.out _ _ (u2) (fun hHeld => ?_)
     clear hK K
     refine norm_ (a' := ?_) ?_ ?_
     rotate_left
     ·show Act.put _ (some 46) _ = _
      simp only [Act.put, List.setIfInBounds_toArray, List.set_cons_zero, List.set_cons_succ, i64_w, i32_w]
      rfl
     refine pure_ (i := 10) (N := some 7) (v := ?_) (a' := ?_) #[true, true, true, true, true, true, true, true, true, true, true] rfl rfl (any_of HT_.out (by kernel_rfl)) (fun _ _ _ h => h) (Or.inl ⟨by rfl, ?_⟩) ?_ ?_
     rotate_left
     ·intro w'
      go_simp
      with_reducible rfl
     rotate_left
     ·simp only [Act.put, List.setIfInBounds_toArray, List.set_cons_zero, List.set_cons_succ, i64_w, i32_w]
      rfl
     refine done_ (done_of HT_.out (by kernel_rfl)) ?_
     go_wp2
     go_roundw
     case rel =>
      refine ⟨i + 1, by go_num, by omega, ?_, ?_, ?_⟩
      ·rw [HWN.out]; exact ho
      ·exact Row6.grown hg8 hne8
      ·exact hb8
     case measure => simp [natV]; omega
    ·have HWN := Aside0.mk (hwn.trans (if_neg hyv))
     clear hwn
     have e3 : decide (y ≥ v) = false := by simp; omega
     go_wp2
     go_roundw
     case rel =>
      refine ⟨i + 1, by go_num, by omega, ?_, ?_, ?_⟩
      ·rw [HWN.out]; exact HRa.out
      ·exact HRow.out.below hba
      ·exact HBa.out
     case measure => simp [natV]; omega
  ·obtain rfl : i = l.length := by omega
   have e1 : decide ((l.length : Int) < (l.length : Int)) = false := by simp
   have HRr := Aside0.mk hRr
   have HBr := Aside0.mk hBr
   clear hRr hBr
   go_wp2_with (go_at_call 72; refine (HJ.out _ _ (Kd.R_mono HRr.out (fun _ _ => trivial)) HBr.out).mono ?_; rintro ev w4 ⟨v0, rfl, R4, hb4⟩)
   go_ret
   exact ⟨v0, rfl, Kd.R_lower R4 HBr.out.size, below_step HBr.out hb4⟩
end Go.Proofs.Ytlddccmgamlccaa.Us

set_option linter.unusedVariables false
set_option linter.unusedSimpArgs false
namespace Go.Proofs.Ytlddccmgamlccaa.Us
open Go Go.Proofs Go.RowKit Go.Lib Go.Proofs.YtlddccmgamlccaaW.PrintWords Go.Proofs.YtlddccmgamlccaaW.PrintLast Go.Proofs.YtlddccmgamlccaaW.PrintMore
open Go.Proofs.Ytlddccmgamlccaa.PJoin (S25 k25 z25 k25_mkM info25 joinR Join_joinR tick_Join.f tick_Join.calls joined)

/-- the spans at all times of which a width is free -/
def wideR (l : List (Int × Int)) (t v : Int) : List S25 := joinR (wideN l t v l.length)
theorem wide_calls (fv : Value) (l : List (Int × Int)) (t v : Int) (w : World) (hF : FreeIs w fv l) (hL : Lev l) :
  Calls Try.prog 59 #[fv, .int .i64 t, .int .i64 v] w fun e w' => ∃ v0_ : Value, e = .returned v0_ ∧ Kd.R k25 25 w' w.heap.size (fun _ => True) v0_ (wideR l t v) ∧ Below w.heap.size w w' := by
 refine wideLoop fv l t v w hF hL _ (fun v7 w1 hR hB => ?_)
 have hlen := hL.len
 have hwl := wideN_len l t v l.length
 obtain ⟨A, c, rfl⟩ := Kd.R_slice hR
 obtain ⟨_, hc, hC⟩ := Kd.R_reads' hR
 exact tick_Join.calls (2 * (wideN l t v l.length).length + 2) A c _ _ w1 hC hc (Join_joinR _ (by omega) _ (by omega))
end Go.Proofs.Ytlddccmgamlccaa.Us

set_option linter.unusedVariables false
set_option linter.unusedSimpArgs false
namespace Go.Proofs.Ytlddccmgamlccaa.Us
open Go Go.Proofs Go.RowKit Go.Lib Go.Proofs.YtlddccmgamlccaaW.PrintWords Go.Proofs.YtlddccmgamlccaaW.PrintLast Go.Proofs.YtlddccmgamlccaaW.PrintMore
open Go.Proofs.Ytlddccmgamlccaa.PJoin (S25 k25 z25 k25_mkM k25_openM info25 joinR joined rd_T25)
attribute [local go_sem] Oper.semAt_some

/-- how long a clean span is -/
def lenC (a b : Int) : Int := if b ≤ mn a b then 0 else if b = 1099511627776 then 1099511627776 else b - mn a b
theorem len_calls (a b : Int) (h : (0 ≤ a ∧ a ≤ 1099511627776) ∧ (0 ≤ b ∧ b ≤ 1099511627776)) (w : World) :
  Calls Try.prog 60 #[.agg #[.int .i64 a, .int .i64 b]] w fun e w' => e = .returned (.int .i64 (lenC a b)) ∧ Below w.heap.size w w' := by
 refine PJoin.tick_Span_Len.calls a b _ w ?_
 have hc : ∀ t, PJoin.tick_Clamp.f t = some (clT t) := fun t => rfl
 have r1 := mn_range h.1 h.2
 unfold PJoin.tick_Span_Len.f PJoin.tick_Span_clean.f PJoin.tick_Sub.f
 rw [hc, hc]
 simp only [Option.bind_some]
 rw [clT_clT h.1, clT_clT h.2, hc, hc]
 simp only [Option.bind_some]
 rw [clT_clT h.2, clT_clT r1]
 unfold lenC
 split
 ·rfl
 ·split
  ·rfl
  ·rw [wrap64_small (by omega)]; rfl

/-- a row of spans that may be read -/
def SpRow (w : World) (B : Nat) (A : Option Addr) (xs : List S25) : Prop :=
 ∀ j (h : j < xs.length), ∃ g, A = some ⟨g, 0, none⟩ ∧ B ≤ g ∧ ∃ cs, w.heap[g]? = some (.cells cs 25 (0, 0)) ∧ cs[j * 2]? = some (.int .i64 xs[j].f0) ∧ cs[j * 2 + 1]? = some (.int .i64 xs[j].f1)
theorem spRow_of {w : World} {B : Nat} {ok : Nat → Prop} {A : Option Addr} {n c : Nat} {xs : List S25} (h : Kd.R k25 25 w B ok (.slice A n c) xs) : SpRow w B A xs := by
 intro j hj
 obtain ⟨g, c', e, hb, hl, cs, hcs⟩ := Kd.R_form h (by omega)
 injection e with e1 e2 e3
 subst e1
 obtain ⟨ce, h1, h2, h3, h4⟩ := Kd.R_elem h z25 (j : Int) (by omega) (by omega)
 obtain rfl := k25_openM h2
 have hx : xs.getD (j : Int).toNat z25 = xs[j] := by
  rw [Int.toNat_natCast, List.getD_eq_getElem?_getD, List.getElem?_eq_getElem hj, Option.getD_some]
 rw [hx] at h3
 refine ⟨g, rfl, hb, cs, hcs, ?_, ?_⟩
 ·exact (blk_cell hcs (j * 2)).symm.trans (h3 0 _ rfl)
 ·exact (blk_cell hcs (j * 2 + 1)).symm.trans (h3 1 _ rfl)

/-- from which times on a width is free for so many, of a span at all times of which it is -/
def startOne (many : Int) (s : S25) : Option (Int × Int) :=
 if s.f1 < 1099511627776 then (if many > lenC s.f0 s.f1 then none else some (s.f0, s.f1 - max many 1 + 1)) else some (s.f0, s.f1)
def startsR (l : List (Int × Int)) (t many v : Int) : List (Int × Int) := (wideR l t v).filterMap (startOne many)
theorem wideR_range (l : List (Int × Int)) (t v : Int) : ∀ s ∈ wideR l t v, 0 ≤ s.f0 ∧ s.f0 < s.f1 ∧ s.f1 ≤ 1099511627776 := by
 intro s hs
 unfold wideR at hs
 have := PJoin.joined_range (wideN l t v l.length) (s.f0, s.f1) (by
  rw [← PJoin.joinR_sp]
  exact List.mem_map.2 ⟨s, hs, rfl⟩)
 exact this
theorem fm_snoc (f : S25 → Option (Int × Int)) (xs : List S25) (i : Nat) (h : i < xs.length) : (xs.take (i + 1)).filterMap f = (xs.take i).filterMap f ++ (f xs[i]).toList := by
 rw [List.take_succ_eq_append_getElem h, List.filterMap_append]
 congr 1
theorem fm_prefix (f : S25 → Option (Int × Int)) (xs : List S25) (i : Nat) : (xs.take i).filterMap f <+: xs.filterMap f := by
 refine ⟨(xs.drop i).filterMap f, ?_⟩
 rw [← List.filterMap_append, List.take_append_drop]
theorem fm_len (f : S25 → Option (Int × Int)) (xs : List S25) (i : Nat) (h : i < xs.length) (x : Int × Int) (hx : f xs[i] = some x) : ((xs.take i).filterMap f).length < (xs.filterMap f).length := by
 obtain ⟨r, hr⟩ := fm_prefix f xs (i + 1)
 rw [← hr, fm_snoc f xs i h, hx]
 simp

/-- blocks of cells stay: those that are told, and those laid since -/
def Keeps (B : Nat) (b : Nat → Prop) (W W' : World) : Prop := ∀ k cs e f, W.heap[k]? = some (.cells cs e f) → (b k ∨ B ≤ k) → W'.heap[k]? = some (.cells cs e f)

--DEFS
def startsRg.T5 : Bool × List (List Nat × List Nat) := (true, [([], []), ([], []), ([1], [1]), ([0, 2], [0, 2])])
def startsRg.B5 : List Nat := [0, 0, 2, 7]
theorem startsRg.tab5 : rtab .any (opsOf Try.f58 5) = startsRg.T5 := by kernel_rfl
theorem startsRg.bits5 : waitsOk startsRg.T5.2 startsRg.B5 = true := by kernel_rfl
--END
set_option maxRecDepth 100000 in
set_option maxHeartbeats 8000000 in
theorem starts1_in (n : Nat) (hn : 1 ≤ n) (l b1 b2 b3 b4 : Nat) (fv : Value) (L : List (Int × Int)) (t many v : Int) (hL : Lev L) (J Jx : List (Int × Int) → World → Prop) (Kp : World → World → Prop) (W0 : World)
  (hJ : ∀ pre A B, Below A.heap.size A B → J pre A → J pre B)
  (hY : ∀ pre (x : Int × Int) W, J pre W → pre.length < (startsR L t many v).length → YieldAt Fence.wide (n - 1) Try.prog l #[.agg #[.int .i64 x.1, .int .i64 x.2]] W fun e W' =>
   (e = .returned (.bool true) ∧ J (pre ++ [x]) W' ∧ Kp W W') ∨ (e = .returned (.bool false) ∧ Jx (pre ++ [x]) W'))
  (hK : ∀ W W', Kp W W' → Keeps W0.heap.size (fun k => k = b4) W W')
  (hF : FreeIs W0 fv L) (c1 : W0.heap[b1]? = some (.cells #[fv] 28 (0, 0))) (c2 : W0.heap[b2]? = some (.cells #[.int .i64 t] 23 (0, 0))) (c3 : W0.heap[b3]? = some (.cells #[.int .i64 v] 3 (0, 0)))
  (c4 : W0.heap[b4]? = some (.cells #[.int .i64 many] 23 (0, 0))) (h0 : J [] W0) :
  CallsIn Fence.wide n Try.prog 58 #[.func (.yield l) #[] #[], .pointer (some ⟨b1, 0, none⟩), .pointer (some ⟨b2, 0, none⟩), .pointer (some ⟨b3, 0, none⟩), .pointer (some ⟨b4, 0, none⟩)] W0 fun e W' => (∃ v, e = .returned v) ∧
   ((∃ ys, ys = startsR L t many v ∧ J ys W') ∨ (∃ pre, pre <+: startsR L t many v ∧ Jx pre W')) := by
 have g1 : W0.cell? ⟨b1, 0, none⟩ = some fv := (blk_cell c1 0).trans rfl
 have g2 : W0.cell? ⟨b2, 0, none⟩ = some (.int .i64 t) := (blk_cell c2 0).trans rfl
 have g3 : W0.cell? ⟨b3, 0, none⟩ = some (.int .i64 v) := (blk_cell c3 0).trans rfl
 have f59 : Fence.wide.fn 59 := trivial
 have HC4 := Aside0.mk c4
 have HW := Aside0.mk (wide_calls fv L t v W0 hF hL)
 have HH0 := Aside0.mk h0
 have hwlen : (wideR L t v).length ≤ 1099511627776 := by
  have h1 := PJoin.joined_length (wideN L t v L.length)
  have h2 := wideN_len L t v L.length
  have h3 := hL.len
  unfold wideR PJoin.joinR
  rw [List.length_map]
  omega
 obtain ⟨R, hRR⟩ : ∃ R, wideR L t v = R := ⟨_, rfl⟩
 have hRg := wideR_range L t v
 have hSR : startsR L t many v = R.filterMap (startOne many) := by rw [← hRR]; rfl
 rw [hRR] at HW hwlen hRg
 rw [hSR] at hY ⊢
 clear hF c1 c2 c3 c4 h0 hRR hSR
 refine callsIn_of_wp Try.func58 rfl trivial ?_ rfl
 simp only [Try.ntmps58, List.size_toArray, List.length_cons, List.length_nil, Nat.reduceAdd, Nat.reduceSub, Array.replicate_succ, Array.replicate_zero, List.push_toArray, List.append_toArray, List.nil_append, List.cons_append]
 refine wpIn_wide.2 (wp_scope_straight ((wpIn_wide (n := n)).1 ?_))
 gi_wp2
 refine wpIn_wide.2 (wp_label ?_)
 gi_wp2_with (gi_at_call 59; refine (callsIn_wide.2 HW.out).mono ?_; rintro e w1 ⟨v0, rfl, R1, hb1⟩; obtain ⟨A, c, rfl⟩ := Kd.R_slice R1)
 have HR1 := Aside0.mk (spRow_of R1)
 have h4 := Aside0.mk (blk_below HC4.out hb1)
 have HJ1 := Aside0.mk (hJ _ _ _ hb1 HH0.out)
 have hbs := hb1.size
 clear R1 hb1
 gi_loopw [14] (fun v14 wr => ∃ i : Nat, v14 = .int .i64 (i : Int) ∧ i ≤ R.length ∧ SpRow wr W0.heap.size A R ∧ wr.heap[b4]? = some (.cells #[.int .i64 many] 23 (0, 0)) ∧ J ((R.take i).filterMap (startOne many)) wr)
  (fun v14 wr => R.length - natV v14)
 case atStart => exact ⟨0, rfl, Nat.zero_le _, HR1.out, h4.out, HJ1.out⟩
 case round =>
  obtain ⟨i, rfl, hi, hRow, hc4, hJr⟩ := hrel
  by_cases hlt : i < R.length
  ·have e1 : decide ((i : Int) < (R.length : Int)) = true := by simp; omega
   have hw1 : IntKind.i64.wrap ((i : Int) + 1) = (i : Int) + 1 := by rw [IntKind.wrap_i64]; omega
   obtain ⟨g, rfl, hgB, cs, hcs, hx, hy⟩ := hRow i hlt
   obtain ⟨x, hxx⟩ : ∃ x, R[i].f0 = x := ⟨_, rfl⟩
   obtain ⟨y, hyy⟩ : ∃ y, R[i].f1 = y := ⟨_, rfl⟩
   have hxy := hRg _ (List.getElem_mem hlt)
   rw [hxx] at hx hxy
   rw [hyy] at hy hxy
   have gx : wr.cell? ⟨g, i * 2, none⟩ = some (.int .i64 x) := (blk_cell hcs (i * 2)).trans hx
   have gy : wr.cell? ⟨g, i * 2 + 1, none⟩ = some (.int .i64 y) := (blk_cell hcs (i * 2 + 1)).trans hy
   have HRow := Aside0.mk hRow
   have hc4c : wr.cell? ⟨b4, 0, none⟩ = some (.int .i64 many) := (blk_cell hc4 0).trans rfl
   have HC4r := Aside0.mk hc4
   have HJr := Aside0.mk hJr
   have HX := Aside0.mk hxx
   have HY2 := Aside0.mk hyy
   clear hRow hc4 hJr hcs hx hy hxx hyy
   have hba : Below wr.heap.size wr (wr.alloc (.cells #[.int .i64 x, .int .i64 y] 25 (0, 0))) := (Below.refl _ wr).alloc (Nat.le_refl _) _
   have nz := blk_new wr (.cells #[.int .i64 x, .int .i64 y] 25 (0, 0))
   have s4 : (wr.alloc (.cells #[.int .i64 x, .int .i64 y] 25 (0, 0))).cell? ⟨b4, 0, none⟩ = some (.int .i64 many) := below_cell1 hba hc4c
   have s0 : (wr.alloc (.cells #[.int .i64 x, .int .i64 y] 25 (0, 0))).cell? ⟨wr.heap.size, 0, none⟩ = some (.int .i64 x) := (blk_cell nz 0).trans rfl
   have s1 : (wr.alloc (.cells #[.int .i64 x, .int .i64 y] 25 (0, 0))).cell? ⟨wr.heap.size, 1, none⟩ = some (.int .i64 y) := (blk_cell nz 1).trans rfl
   by_cases hN : y < 1099511627776
   ·have e2 : decide (y < 1099511627776) = true := by simp; omega
    have hll := len_calls x y ⟨⟨by omega, by omega⟩, ⟨by omega, by omega⟩⟩
    obtain ⟨m, hm⟩ : ∃ m, lenC x y = m := ⟨_, rfl⟩
    have hmr : m = y - x := by rw [← hm]; unfold lenC mn; split <;> split <;> (try split) <;> omega
    rw [hm] at hll
    have HL := Aside0.mk hll
    have HM := Aside0.mk hm
    clear hll hm
    gi_wp2
    refine wpIn_wide.2 ?_
    refine start_ (n := 4) (S := fun w' => w'.cell? ⟨b4, 0, none⟩ = some (.int .i64 many) ∧ w'.cell? ⟨wr.heap.size, 0, none⟩ = some (.int .i64 x) ∧ w'.cell? ⟨wr.heap.size, 1, none⟩ = some (.int .i64 y)) (ds := []) #[false, false, false, false] (by kernel_rfl) rfl rfl ⟨s4, s0, s1⟩ (fun hHeld => ?_); refine with_tabW startsRg.tab5 startsRg.bits5 (fun HT_ HW_ => ?_)
    refine take_ (i := 0) (N := some 23) (v := ?_) (a' := ?_) #[true, false, false, false] rfl rfl (take_ofW HT_.out HW_.out (by kernel_rfl)) (fun _ _ _ h => h) (Or.inl ⟨by rfl, ?_⟩) hHeld ?_ ?_
    rotate_left
    ·rintro w' ⟨s0, s1, s2⟩
     go_simp
     with_reducible rfl
    rotate_left
    ·simp only [Act.put, List.setIfInBounds_toArray, List.set_cons_zero, List.set_cons_succ, i64_w, i32_w]
     rfl
    refine take_ (i := 1) (N := some 24) (v := ?_) (a' := ?_) #[true, true, false, false] rfl rfl (take_ofW HT_.out HW_.out (by kernel_rfl)) (fun _ _ _ h => h) (Or.inl ⟨by rfl, ?_⟩) hHeld ?_ ?_
    rotate_left
    ·rintro w' ⟨s0, s1, s2⟩
     go_simp
     with_reducible rfl
    rotate_left
    ·simp only [Act.put, List.setIfInBounds_toArray, List.set_cons_zero, List.set_cons_succ, i64_w, i32_w]
     rfl
    refine one_ (i := 2) (N := some 25) #[true, true, true, false] rfl rfl (one_of HT_.out (by kernel_rfl)) (by decide) (fun K hK => ?_)
    refine goes_ Try.func60 (by kernel_rfl) rfl #[.agg #[.int .i64 x, .int .i64 y]] (by rfl) rfl rfl (by (try simp only [List.map_toArray, List.map_cons, List.map_nil]); first | done | rfl | (simp only [List.length_drop, List.length_take]; rfl)) ?_
    with_reducible refine (HL.out _).mono ?_
    rintro ev w5 ⟨rfl, hb5⟩
    have u4 := below_cell1 hb5 s4
    have u0 := below_cell1 hb5 s0
    have u1 := below_cell1 hb5 s1
    refine ⟨_, rfl, ?_⟩
    refine hK.out _ _ ⟨u4, u0, u1⟩ (fun hHeld => ?_)
    clear hK K
    refine norm_ (a' := ?_) ?_ ?_
    rotate_left
    ·show Act.put _ (some 25) _ = _
     simp only [Act.put, List.setIfInBounds_toArray, List.set_cons_zero, List.set_cons_succ, i64_w, i32_w]
     rfl
    refine pure_ (i := 3) (N := some 26) (v := ?_) (a' := ?_) #[true, true, true, true] rfl rfl (any_of HT_.out (by kernel_rfl)) (fun _ _ _ h => h) (Or.inl ⟨by rfl, ?_⟩) ?_ ?_
    rotate_left
    ·intro w'
     go_simp
     with_reducible rfl
    rotate_left
    ·simp only [Act.put, List.setIfInBounds_toArray, List.set_cons_zero, List.set_cons_succ, i64_w, i32_w]
     rfl
    refine done_ (done_of HT_.out (by kernel_rfl)) ?_
    have hbq : Below wr.heap.size wr w5 := hba.trans ((below_drew1 (Below.refl _ _)).trans hb5 |>.mono hba.size)
    have HJ5 := Aside0.mk (hJ _ _ _ hbq HJr.out)
    by_cases hmm : many > m
    ·have e3 : decide (many > m) = true := by simp; omega
     gi_wp2
     go_roundw
     case rel =>
      refine ⟨i + 1, by go_num, by omega, ?_, blk_below HC4r.out hbq, ?_⟩
      ·intro j hj
       obtain ⟨g', e', hB', cs', hcs', h1', h2'⟩ := HRow.out j hj
       exact ⟨g', e', hB', cs', blk_below hcs' hbq, h1', h2'⟩
      ·have hsO : startOne many R[i] = none := by unfold startOne; rw [HX.out, HY2.out, if_pos hN, HM.out, if_pos hmm]
       rw [fm_snoc _ _ _ hlt, hsO]
       simpa using HJ5.out
     case measure => simp [natV]; omega
    ·have e3 : decide (many > m) = false := by simp; omega
     have hw2 : IntKind.i64.wrap (y - max many 1) = y - max many 1 := by rw [IntKind.wrap_i64]; omega
     have hw3 : IntKind.i64.wrap (y - max many 1 + 1) = y - max many 1 + 1 := by rw [IntKind.wrap_i64]; omega
     have hsO : startOne many R[i] = some (x, y - max many 1 + 1) := by unfold startOne; rw [HX.out, HY2.out, if_pos hN, HM.out, if_neg hmm]
     have hlen := fm_len (startOne many) R i hlt _ hsO
     have hsn := fm_snoc (startOne many) R i hlt
     rw [hsO] at hsn
     have HSN := Aside0.mk hsn
     obtain ⟨fn, tmps, assign, body, hyy, hR⟩ := hY _ (x, y - max many 1 + 1) _ HJ5.out hlen
     clear hsn
     dsimp only at hyy
     gi_wp2
     refine hR.mono ?_
     rintro e w6 (⟨rfl, hJ6, hk6⟩ | ⟨rfl, hJx6⟩)
     ·have hk := hK _ _ hk6
      gi_wp2
      go_roundw
      case rel =>
       refine ⟨i + 1, by go_num, by omega, ?_, hk b4 _ _ _ (blk_below HC4r.out hbq) (.inl rfl), ?_⟩
       ·intro j hj
        obtain ⟨g', e', hB', cs', hcs', h1', h2'⟩ := HRow.out j hj
        exact ⟨g', e', hB', cs', hk g' _ _ _ ((fun hcs' => blk_below hcs' hbq) hcs') (.inr hB'), h1', h2'⟩
       ·rw [HSN.out]; exact hJ6
      case measure => simp [natV]; omega
     ·gi_wp2
      simp only [Exit.noGoto_normal, Exit.noGoto_exit, Exit.noGoto_ret]
      refine bodyPost_end (results_none rfl _ _ _) rfl ?_
      refine ⟨⟨_, rfl⟩, .inr ⟨_, ?_, hJx6⟩⟩
      have := fm_prefix (startOne many) R (i + 1)
      rw [HSN.out] at this
      exact this
   ·have e2 : decide (y < 1099511627776) = false := by simp; omega
    have hbq : Below wr.heap.size wr (wr.alloc (.cells #[.int .i64 x, .int .i64 y] 25 (0, 0))) := hba
    have hsO : startOne many R[i] = some (x, y) := by unfold startOne; rw [HX.out, HY2.out, if_neg hN]
    have hlen := fm_len (startOne many) R i hlt _ hsO
    have hsn := fm_snoc (startOne many) R i hlt
    rw [hsO] at hsn
    have HSN := Aside0.mk hsn
    obtain ⟨fn, tmps, assign, body, hyy, hR⟩ := hY _ (x, y) _ (hJ _ _ _ hba HJr.out) hlen
    clear hsn
    dsimp only at hyy
    gi_wp2
    refine hR.mono ?_
    rintro e w6 (⟨rfl, hJ6, hk6⟩ | ⟨rfl, hJx6⟩)
    ·have hk := hK _ _ hk6
     gi_wp2
     go_roundw
     case rel =>
      refine ⟨i + 1, by go_num, by omega, ?_, hk b4 _ _ _ (blk_below HC4r.out hbq) (.inl rfl), ?_⟩
      ·intro j hj
       obtain ⟨g', e', hB', cs', hcs', h1', h2'⟩ := HRow.out j hj
       exact ⟨g', e', hB', cs', hk g' _ _ _ ((fun hcs' => blk_below hcs' hbq) hcs') (.inr hB'), h1', h2'⟩
      ·rw [HSN.out]; exact hJ6
     case measure => simp [natV]; omega
    ·gi_wp2
     simp only [Exit.noGoto_normal, Exit.noGoto_exit, Exit.noGoto_ret]
     refine bodyPost_end (results_none rfl _ _ _) rfl ?_
     refine ⟨⟨_, rfl⟩, .inr ⟨_, ?_, hJx6⟩⟩
     have := fm_prefix (startOne many) R (i + 1)
     rw [HSN.out] at this
     exact this
  ·obtain rfl : i = R.length := by omega
   have e1 : decide ((R.length : Int) < (R.length : Int)) = false := by simp
   rw [List.take_length] at hJr
   gi_wp2
   simp only [Exit.noGoto_normal, Exit.noGoto_exit, Exit.noGoto_ret]
   refine bodyPost_end (results_none rfl _ _ _) rfl ?_
   exact ⟨⟨_, rfl⟩, .inl ⟨_, rfl, hJr⟩⟩
end Go.Proofs.Ytlddccmgamlccaa.Us

set_option linter.unusedVariables false
set_option linter.unusedSimpArgs false
namespace Go.Proofs.Ytlddccmgamlccaa.Us
open Go Go.Proofs Go.RowKit Go.Lib Go.Proofs.YtlddccmgamlccaaW.PrintWords Go.Proofs.YtlddccmgamlccaaW.PrintLast Go.Proofs.YtlddccmgamlccaaW.PrintMore
open Go.Proofs.Ytlddccmgamlccaa.PJoin (S25 k25)
attribute [local go_sem] Oper.semAt_some

/-- blocks of cells stay, but for those that are told -/
def KeepX (b : Nat → Prop) (W W' : World) : Prop := ∀ k cs e f, W.heap[k]? = some (.cells cs e f) → ¬ b k → W'.heap[k]? = some (.cells cs e f)
theorem KeepX.trans {b : Nat → Prop} {A B C : World} (h : KeepX b A B) (k : KeepX b B C) : KeepX b A C := fun i cs e f hi hb => k i cs e f (h i cs e f hi hb) hb
theorem KeepX.putObj {b : Nat → Prop} (W : World) (l : Nat) (o o' : Obj) (hl : W.heap[l]? = some o) (ho : o.isCells = false) : KeepX b W (W.putObj l o') := fun k cs e f hk _ => by
 have hne : k ≠ l := fun h => by subst h; rw [hk] at hl; cases hl; cases ho
 exact (World.putObj_heap_other hne).trans hk
theorem KeepX.below {b : Nat → Prop} {W W' : World} (h : Below W.heap.size W W') : KeepX b W W' := fun k cs e f hk _ => (h.block k (blk_lt hk)).trans hk
theorem grown_of_below {A B : World} (h : Below A.heap.size A B) : A.grownBy B none := ⟨h.os, h.tape, h.output, h.size, fun i hi _ => h.block i hi⟩

theorem starts_stops (n : Nat) (hn : 1 ≤ n) (b1 b2 b3 b4 : Nat) (fv : Value) (L : List (Int × Int)) (t many v : Int) (hL : Lev L) (w : World) (b : Nat → Prop) (hb : ∀ k, b k → k < w.heap.size ∧ k ≠ b4)
  (hF : FreeIs w fv L) (c1 : w.heap[b1]? = some (.cells #[fv] 28 (0, 0))) (c2 : w.heap[b2]? = some (.cells #[.int .i64 t] 23 (0, 0))) (c3 : w.heap[b3]? = some (.cells #[.int .i64 v] 3 (0, 0)))
  (c4 : w.heap[b4]? = some (.cells #[.int .i64 many] 23 (0, 0))) :
  SeqStopsK Fence.wide n Try.prog 58 #[.pointer (some ⟨b1, 0, none⟩), .pointer (some ⟨b2, 0, none⟩), .pointer (some ⟨b3, 0, none⟩), .pointer (some ⟨b4, 0, none⟩)] (fun x : Int × Int => #[.agg #[.int .i64 x.1, .int .i64 x.2]]) (KeepX b)
   (fun ys => ys = startsR L t many v) (fun pre => pre <+: startsR L t many v) (startsR L t many v).length w := fun l J Jx W hW hJ _ hY h0 =>
 starts1_in n hn l b1 b2 b3 b4 fv L t many v hL J Jx (KeepX b) W (fun pre A B hAB hA => hJ pre A B none hA (grown_of_below hAB) (fun r e => by cases e)) hY
  (fun A B hk k cs e f h1 h2 => hk k cs e f h1 (fun hbk => by
   have := hb k hbk
   have hs := hW.size
   rcases h2 with h2 | h2
   ·exact this.2 h2
   ·omega))
  (hF.below hW) (blk_below c1 hW) (blk_below c2 hW) (blk_below c3 hW) (blk_below c4 hW) h0

/-- the captured variables of the iterator -/
def startsW (w : World) (fv : Value) (t many v : Int) : World := (((w.alloc (.cells #[fv] 28)).alloc (.cells #[.int .i64 t] 23)).alloc (.cells #[.int .i64 many] 23)).alloc (.cells #[.int .i64 v] 3)
set_option maxHeartbeats 1000000 in
theorem starts_calls (a : Option Addr) (t many v : Int) (w : World) :
  Calls Try.prog 35 #[.pointer a, .int .i64 t, .int .i64 many, .int .i64 v] w fun e w' => e = .returned (.func (.func 58) #[] #[.pointer (some ⟨w.heap.size, 0, none⟩), .pointer (some ⟨w.heap.size + 1, 0, none⟩), .pointer (some ⟨w.heap.size + 3, 0, none⟩), .pointer (some ⟨w.heap.size + 2, 0, none⟩)]) ∧ w' = startsW w (.pointer a) t many v := by
 go_enter Try.func35, Try.ntmps35
 go_wp2
 go_ret
 exact ⟨rfl, rfl⟩
theorem startsW_cells (w : World) (fv : Value) (t many v : Int) : (startsW w fv t many v).heap[w.heap.size]? = some (.cells #[fv] 28 (0, 0)) ∧ (startsW w fv t many v).heap[w.heap.size + 1]? = some (.cells #[.int .i64 t] 23 (0, 0)) ∧
  (startsW w fv t many v).heap[w.heap.size + 3]? = some (.cells #[.int .i64 v] 3 (0, 0)) ∧ (startsW w fv t many v).heap[w.heap.size + 2]? = some (.cells #[.int .i64 many] 23 (0, 0)) ∧ Below w.heap.size w (startsW w fv t many v) ∧ (startsW w fv t many v).heap.size = w.heap.size + 4 := by
 unfold startsW
 have n1 := blk_new w (.cells #[fv] 28)
 have n2 := blk_new (w.alloc (.cells #[fv] 28)) (.cells #[.int .i64 t] 23)
 have n3 := blk_new ((w.alloc (.cells #[fv] 28)).alloc (.cells #[.int .i64 t] 23)) (.cells #[.int .i64 many] 23)
 have n4 := blk_new (((w.alloc (.cells #[fv] 28)).alloc (.cells #[.int .i64 t] 23)).alloc (.cells #[.int .i64 many] 23)) (.cells #[.int .i64 v] 3)
 simp only [size_alloc] at n2 n3 n4
 refine ⟨blk_alloc (blk_alloc (blk_alloc n1 _) _) _, blk_alloc (blk_alloc n2 _) _, n4, blk_alloc n3 _, ?_, by simp only [size_alloc]⟩
 exact ((((Below.refl _ w).alloc (Nat.le_refl _) _).alloc (by simp only [size_alloc]; omega) _).alloc (by simp only [size_alloc]; omega) _).alloc (by simp only [size_alloc]; omega) _

/-- the first time from which a width is free for so many -/
def earlyL (l : List (Int × Int)) (t many v : Int) : Int := match startsR l t many v with
 | [] => 1099511627776
 | x :: _ => x.1

set_option maxRecDepth 100000 in
set_option maxHeartbeats 8000000 in
theorem earliest_ptr (pa : Option Addr) (fv : Value) (hfv : fv = .pointer pa) (L : List (Int × Int)) (t many v : Int) (w : World) (hF : FreeIs w fv L) (hL : Lev L) :
  Calls Try.prog 9 #[fv, .int .i64 t, .int .i64 many, .int .i64 v] w fun e w' => e = .returned (.int .i64 (earlyL L t many v)) ∧ Below w.heap.size w w' := by
 have f35 : Fence.wide.fn 35 := trivial
 refine (callsIn_wide (n := 5)).1 ?_
 refine callsIn_of_wp_marks Try.func9 rfl trivial ?_ rfl
 simp only [Try.ntmps9, List.size_toArray, List.length_cons, List.length_nil, Nat.reduceAdd, Nat.reduceSub, Array.replicate_succ, Array.replicate_zero, List.push_toArray, List.append_toArray, List.nil_append, List.cons_append]
 have HF := Aside0.mk hF
 clear hF
 subst hfv
 have hsc := startsW_cells (w.alloc (.cells #[.int .i64 0] 23)) (.pointer pa) t many v
 have hb0 : Below w.heap.size w (w.alloc (.cells #[.int .i64 0] 23)) := (Below.refl _ w).alloc (Nat.le_refl _) _
 have n0 := blk_new w (.cells #[.int .i64 0] 23)
 gi_wp2_with (gi_at_call 35; refine (callsIn_wide.2 (starts_calls pa t many v _)).mono ?_; rintro e w1 ⟨rfl, hw1⟩; rw [← hw1] at hsc; clear hw1)
 simp only [size_alloc] at hsc ⊢
 obtain ⟨d1, d2, d3, d4, hb1, hsz⟩ := hsc
 have hb2 := below_step hb0 (by simpa only [size_alloc] using hb1)
 have bx : Boxed w1 w.heap.size 23 (.int .i64 0) := (hb1.block _ (by simp)).trans n0
 have HF1 := HF.out.below hb2
 refine wpIn_rangeFunc_ownH rfl (by omega) (gf := 58) (lb := #[.pointer (some ⟨w.heap.size + 1, 0, none⟩), .pointer (some ⟨w.heap.size + 1 + 1, 0, none⟩), .pointer (some ⟨w.heap.size + 1 + 3, 0, none⟩), .pointer (some ⟨w.heap.size + 1 + 2, 0, none⟩)]) rfl trivial (enters_of Try.func58 (by kernel_rfl) rfl)
  (starts_stops (5 - 1) (by omega) _ _ _ _ (.pointer pa) L t many v hL w1 (fun k => k = w.heap.size) (fun k hk => by omega) HF1 d1 d2 d3 d4) (fun h k => KeepX.trans h k) (fun W l o o' _ hl ho _ => KeepX.putObj W l o o' hl ho) (Below.refl _ _) (fun _ => rfl)
  (fun pre W => (Boxed W w.heap.size 23 (.int .i64 0) ∧ pre = []) ∧ Below w.heap.size w W)
  (fun c pre W => (∃ x : Int × Int, c = .ret ∧ pre = [x] ∧ Boxed W w.heap.size 23 (.int .i64 x.1)) ∧ Below w.heap.size w W)
  (OwnFrom.and (Own.from (fun s A B row hs hg hr => ⟨boxed_own (β := Unit) _ _ (fun _ => _) () A B row hs.1 hg hr, hs.2⟩) _) (ownFrom_below (Nat.le_refl _) (by omega)))
  (fun c => OwnFrom.and (Own.from (fun s A B row hs hg hr => by
   obtain ⟨x, h1, h2, h3⟩ := hs
   exact ⟨x, h1, h2, boxed_own (β := Unit) _ _ (fun _ => _) () A B row h3 hg hr⟩) _) (ownFrom_below (Nat.le_refl _) (by omega)))
  ⟨⟨bx, rfl⟩, hb2⟩
  (fun x a' W => ∃ Bx, w.heap.size < Bx ∧ W.heap[Bx]? = some (.cells #[.int .i64 x.1, .int .i64 x.2] 25 (0, 0)) ∧ a' = { tmps := #[.pointer pa, .int .i64 t, .int .i64 many, .int .i64 v, undef, undef, undef, undef, .pointer (some ⟨w.heap.size, 0, none⟩), .pointer (some ⟨Bx, 0, none⟩), .pointer pa, .int .i64 t, .int .i64 many, .int .i64 v,
    .func (.func 58) #[] #[.pointer (some ⟨w.heap.size + 1, 0, none⟩), .pointer (some ⟨w.heap.size + 1 + 1, 0, none⟩), .pointer (some ⟨w.heap.size + 1 + 3, 0, none⟩), .pointer (some ⟨w.heap.size + 1 + 2, 0, none⟩)], .agg #[.int .i64 x.1, .int .i64 x.2], undef, undef], defers := [] })
  (fun x a' => Own.from (fun s A B row hs hg hr => by
   obtain ⟨Bx, h1, h2, h3⟩ := hs
   exact ⟨Bx, h1, (hg.block Bx (blk_lt h2) (fun e => by obtain ⟨o, ho, hc⟩ := hr Bx e.symm; rw [h2] at ho; cases ho; cases hc)).trans h2, h3⟩) _) ?assign ?body ?done ?stop
 case assign =>
  rintro l pre x W K ⟨⟨hx, hp⟩, hB⟩ hK
  gi_wp2
  exact hK _ _ ((KeepsOthers.alloc _ _).from _) (KeepX.below ((Below.refl _ W).alloc (Nat.le_refl _) _)) ⟨⟨hx.alloc _, hp⟩, hB.alloc hB.size _⟩ ⟨W.heap.size, hx.lt, blk_new W _, rfl⟩
 case body =>
  rintro l pre x a' W hl ⟨r, hr⟩ ⟨⟨hx, rfl⟩, hB⟩ ⟨Bx, hBx, bX, rfl⟩ hlt
  have gx : W.cell? ⟨Bx, 0, none⟩ = some (.int .i64 x.1) := (blk_cell bX 0).trans rfl
  have gc := hx.cell
  have gf := hx.frozen
  gi_wp2
  exact ⟨(KeepsOthers.setCell _ _ _).from _, ⟨x, rfl, rfl, hx.set _⟩, hB.setCell (p := ⟨w.heap.size, 0, none⟩) (Nat.le_refl _) _⟩
 case done =>
  rintro D xs W hD hxs ⟨⟨hx, hp⟩, hB⟩ hK
  have gc := hx.cell
  have gf := hx.frozen
  have he : earlyL L t many v = 1099511627776 := by unfold earlyL; rw [← hxs, hp]
  gi_wp2
  have hK2 := (KeepsOthers.setCell W ⟨w.heap.size, 0, none⟩ (.int .i64 1099511627776)).same D _ hK rfl
  refine ⟨by simp, .inl ⟨_, _, rfl, run_takeDeferred hK2, ?_⟩⟩
  have hx2 := hx.set (.int .i64 1099511627776)
  have hx3 := cell_kept hx2.cell (grownBy_putObj' _ D (.deferred none)) (fun r e => by cases e; exact ⟨_, hK2, rfl⟩)
  have hB3 := (hB.setCell (p := ⟨w.heap.size, 0, none⟩) (Nat.le_refl _) (.int .i64 1099511627776)).trans (belowK_b (w := w) (Nat.le_refl _) _ D _ (.deferred none) (by omega) hK2 rfl rfl)
  refine ⟨.int .i64 1099511627776, ?_, by rw [he], hB3⟩
  simp [results, Try.f9, go_sem, hx3]
 case stop =>
  rintro D c pre W hD hpre ⟨⟨x, rfl, rfl, hx⟩, hB⟩ hK
  have gc := hx.cell
  have he : earlyL L t many v = x.1 := by
   unfold earlyL
   obtain ⟨r, hr⟩ := hpre
   rw [← hr]
   rfl
  gi_wp2
  refine ⟨by simp, .inl ⟨_, _, rfl, run_takeDeferred hK, ?_⟩⟩
  have hx3 := cell_kept gc (grownBy_putObj' _ D (.deferred none)) (fun r e => by cases e; exact ⟨_, hK, rfl⟩)
  have hB3 := hB.trans (belowK_b (w := w) (Nat.le_refl _) _ D _ (.deferred none) (by omega) hK rfl rfl)
  refine ⟨.int .i64 x.1, ?_, by rw [he], hB3⟩
  simp [results, Try.f9, go_sem, hx3]
theorem earliest_calls (fv : Value) (L : List (Int × Int)) (t many v : Int) (w : World) (hF : FreeIs w fv L) (hL : Lev L) :
  Calls Try.prog 9 #[fv, .int .i64 t, .int .i64 many, .int .i64 v] w fun e w' => e = .returned (.int .i64 (earlyL L t many v)) ∧ Below w.heap.size w w' := by
 rcases id hF with ⟨rfl, _⟩ | ⟨p, q, c, rfl, _⟩
 ·exact earliest_ptr _ _ rfl L t many v w hF hL
 ·exact earliest_ptr _ _ rfl L t many v w hF hL
end Go.Proofs.Ytlddccmgamlccaa.Us

set_option linter.unusedVariables false
set_option linter.unusedSimpArgs false
namespace Go.Proofs.Ytlddccmgamlccaa.Us
open Go Go.Proofs Go.RowKit Go.Lib Go.Proofs.YtlddccmgamlccaaW.PrintWords Go.Proofs.YtlddccmgamlccaaW.PrintLast Go.Proofs.YtlddccmgamlccaaW.PrintMore
attribute [local go_sem] Oper.semAt_some

theorem keepsOthers_below {A B : World} (h : Below A.heap.size A B) : KeepsOthers A B := KeepsOthers.of_grownBy (grown_of_below h) (fun j o e => by cases e)
/-- of a span from which on a width is free: the last time ahead of another; the test whether there is one -/
def latE (ta tb : Int) (x : Int × Int) : Bool := decide ((cutP x.1 x.2 ta tb).1 ≥ (cutP x.1 x.2 ta tb).2)
def latO (ta tb : Int) (xs : List (Int × Int)) : Int × Bool := match xs.getLast? with
 | none => (0, false)
 | some x => ((cutP x.1 x.2 ta tb).2 - 1, true)
/-- the last time from which a width is free for so many, in a span -/
def latestL (l : List (Int × Int)) (ta tb many v : Int) : Int × Bool := latO ta tb ((startsR l ta many v).takeWhile fun x => !latE ta tb x)
theorem latO_snoc (ta tb : Int) (xs : List (Int × Int)) (x : Int × Int) : latO ta tb (xs ++ [x]) = ((cutP x.1 x.2 ta tb).2 - 1, true) := by unfold latO; simp
theorem takeWhile_all {α : Type} (p : α → Bool) : ∀ (l : List α), (∀ x ∈ l, p x = true) → l.takeWhile p = l
 | [], _ => rfl
 | x :: r, h => by rw [List.takeWhile_cons_of_pos (h x List.mem_cons_self), takeWhile_all p r (fun y hy => h y (List.mem_cons_of_mem _ hy))]
theorem takeWhile_stop {α : Type} (p : α → Bool) : ∀ (l r : List α) (x : α), (∀ y ∈ l, p y = true) → p x = false → (l ++ x :: r).takeWhile p = l
 | [], r, x, _, hx => by rw [List.nil_append, List.takeWhile_cons_of_neg (by simp [hx])]
 | y :: l, r, x, h, hx => by rw [List.cons_append, List.takeWhile_cons_of_pos (h y List.mem_cons_self), takeWhile_stop p l r x (fun z hz => h z (List.mem_cons_of_mem _ hz)) hx]
theorem wp_calm {P : Program} {c : Code} {K : Act → World → Prop} {Q' : Exit → Act → World → Prop} {a : Act} {w : World} (h : c.wp P (Exit.then K (fun _ _ _ => False)) a w) : c.wp P (Exit.then K Q') a w :=
 wp_mono h (fun e a w hq => by cases e <;> first | exact hq | exact hq.elim)
--DEFS
def latestRg.T6 : Bool × List (List Nat × List Nat) := (true, [([], []), ([], []), ([0, 0], [0]), ([1, 2, 0, 1, 2], [1])])
def latestRg.B6 : List Nat := [0, 0, 1, 7]
theorem latestRg.tab6 : rtab .any (opsOf Try.f22 6) = latestRg.T6 := by kernel_rfl
theorem latestRg.bits6 : waitsOk latestRg.T6.2 latestRg.B6 = true := by kernel_rfl
--END

set_option maxRecDepth 100000 in
set_option maxHeartbeats 8000000 in
theorem latest_ptr (pa : Option Addr) (fv : Value) (hfv : fv = .pointer pa) (L : List (Int × Int)) (ta tb many v : Int) (w : World) (hF : FreeIs w fv L) (hL : Lev L) :
  Calls Try.prog 22 #[fv, .agg #[.int .i64 ta, .int .i64 tb], .int .i64 many, .int .i64 v] w fun e w' => e = .returned (.tuple #[.int .i64 (latestL L ta tb many v).1, .bool (latestL L ta tb many v).2]) ∧ Below w.heap.size w w' := by
 have f35 : Fence.wide.fn 35 := trivial
 refine (callsIn_wide (n := 6)).1 ?_
 refine callsIn_of_wp_marks Try.func22 rfl trivial ?_ rfl
 simp only [Try.ntmps22, List.size_toArray, List.length_cons, List.length_nil, Nat.reduceAdd, Nat.reduceSub, Array.replicate_succ, Array.replicate_zero, List.push_toArray, List.append_toArray, List.nil_append, List.cons_append]
 have HF := Aside0.mk hF
 clear hF
 subst hfv
 have n0 := blk_new w (.cells #[.int .i64 ta, .int .i64 tb] 25)
 have n1 := blk_new (w.alloc (.cells #[.int .i64 ta, .int .i64 tb] 25)) (.cells #[.int .i64 0] 23)
 have n2 := blk_new ((w.alloc (.cells #[.int .i64 ta, .int .i64 tb] 25)).alloc (.cells #[.int .i64 0] 23)) (.cells #[.bool false] 4)
 have hb0 : Below w.heap.size w (((w.alloc (.cells #[.int .i64 ta, .int .i64 tb] 25)).alloc (.cells #[.int .i64 0] 23)).alloc (.cells #[.bool false] 4)) := (((Below.refl _ w).alloc (Nat.le_refl _) _).alloc (by simp only [size_alloc]; omega) _).alloc (by simp only [size_alloc]; omega) _
 have n0' := blk_alloc (blk_alloc n0 (.cells #[.int .i64 0] 23)) (.cells #[.bool false] 4)
 have n1' := blk_alloc n1 (.cells #[.bool false] 4)
 simp only [size_alloc] at n1' n2
 obtain ⟨W0, hW0⟩ : ∃ W0, (((w.alloc (.cells #[.int .i64 ta, .int .i64 tb] 25)).alloc (.cells #[.int .i64 0] 23)).alloc (.cells #[.bool false] 4)) = W0 := ⟨_, rfl⟩
 have hs0 : W0.heap.size = w.heap.size + 3 := by rw [← hW0]; simp only [size_alloc]
 have hsc := startsW_cells W0 (.pointer pa) ta many v
 rw [hW0] at n0' n1' n2 hb0
 have g0 : W0.cell? ⟨w.heap.size, 0, none⟩ = some (.int .i64 ta) := (blk_cell n0' 0).trans rfl
 have HS := Aside0.mk (fun W => starts_calls pa ta many v W)
 have HW0 := Aside0.mk hW0
 clear n0 n1 hW0
 gi_wp2_with (first
  | (gi_at_call 35; rw [HW0.out]; refine (callsIn_wide.2 (HS.out _)).mono ?_; rintro e w1 ⟨rfl, hw1⟩; rw [← hw1] at hsc; clear hw1))
 rw [hs0] at hsc
 obtain ⟨d1, d2, d3, d4, hb1, hsz⟩ := hsc
 have hb2 : Below w.heap.size w w1 := hb0.trans (hb1.mono (by omega))
 have HF1 := HF.out.below hb2
 have c0 : w1.heap[w.heap.size]? = some (.cells #[.int .i64 ta, .int .i64 tb] 25 (0, 0)) := (hb1.block _ (by omega)).trans n0'
 have c1 : Boxed w1 (w.heap.size + 1) 23 (.int .i64 0) := (hb1.block _ (by omega)).trans n1'
 have c2 : Boxed w1 (w.heap.size + 1 + 1) 4 (.bool false) := (hb1.block _ (by omega)).trans n2
 clear g0 n0' n1' n2 HW0 HS
 refine wpIn_rangeFunc_ownH rfl (by omega) (gf := 58) (lb := #[.pointer (some ⟨w.heap.size + 3, 0, none⟩), .pointer (some ⟨w.heap.size + 3 + 1, 0, none⟩), .pointer (some ⟨w.heap.size + 3 + 3, 0, none⟩), .pointer (some ⟨w.heap.size + 3 + 2, 0, none⟩)]) rfl trivial (enters_of Try.func58 (by kernel_rfl) rfl)
  (starts_stops (6 - 1) (by omega) _ _ _ _ (.pointer pa) L ta many v hL w1 (fun k => k = w.heap.size + 1 ∨ k = w.heap.size + 1 + 1) (fun k hk => by omega) HF1 d1 d2 d3 d4) (fun h k => KeepX.trans h k) (fun W l o o' _ hl ho _ => KeepX.putObj W l o o' hl ho) (Below.refl _ _) (fun _ => rfl)
  (fun pre W => ((∀ x ∈ pre, (!latE ta tb x) = true) ∧ Boxed W (w.heap.size + 1) 23 (.int .i64 (latO ta tb pre).1) ∧ Boxed W (w.heap.size + 1 + 1) 4 (.bool (latO ta tb pre).2) ∧ W.heap[w.heap.size]? = some (.cells #[.int .i64 ta, .int .i64 tb] 25 (0, 0))) ∧ Below w.heap.size w W)
  (fun c pre W => (∃ pre0 x, c = .exit 0 ∧ pre = pre0 ++ [x] ∧ (∀ x ∈ pre0, (!latE ta tb x) = true) ∧ (!latE ta tb x) = false ∧ Boxed W (w.heap.size + 1) 23 (.int .i64 (latO ta tb pre0).1) ∧ Boxed W (w.heap.size + 1 + 1) 4 (.bool (latO ta tb pre0).2) ∧ W.heap[w.heap.size]? = some (.cells #[.int .i64 ta, .int .i64 tb] 25 (0, 0))) ∧ Below w.heap.size w W)
  (OwnFrom.and (Own.from (fun s A B row hs hg hr => ⟨hs.1, boxed_own (β := Unit) _ _ (fun _ => _) () A B row hs.2.1 hg hr, boxed_own (β := Unit) _ _ (fun _ => _) () A B row hs.2.2.1 hg hr, (hg.block _ (blk_lt hs.2.2.2) (fun e => by obtain ⟨o, ho, hc⟩ := hr _ e.symm; rw [hs.2.2.2] at ho; cases ho; cases hc)).trans hs.2.2.2⟩) _) (ownFrom_below (Nat.le_refl _) (by omega)))
  (fun c => OwnFrom.and (Own.from (fun s A B row hs hg hr => by
   obtain ⟨pre0, x, h1, h2, h3, h4, hs⟩ := hs
   exact ⟨pre0, x, h1, h2, h3, h4, boxed_own (β := Unit) _ _ (fun _ => _) () A B row hs.1 hg hr, boxed_own (β := Unit) _ _ (fun _ => _) () A B row hs.2.1 hg hr, (hg.block _ (blk_lt hs.2.2) (fun e => by obtain ⟨o, ho, hc⟩ := hr _ e.symm; rw [hs.2.2] at ho; cases ho; cases hc)).trans hs.2.2⟩) _) (ownFrom_below (Nat.le_refl _) (by omega)))
  ⟨⟨by simp, c1, c2, c0⟩, hb2⟩
  (fun x a' W => ∃ Bx, w.heap.size + 1 + 1 < Bx ∧ W.heap[Bx]? = some (.cells #[.int .i64 x.1, .int .i64 x.2] 25 (0, 0)) ∧ a' = { tmps := #[.pointer pa, .agg #[.int .i64 ta, .int .i64 tb], .int .i64 many, .int .i64 v, undef, .pointer (some ⟨w.heap.size, 0, none⟩), undef, undef, .pointer (some ⟨w.heap.size + 1, 0, none⟩), .pointer (some ⟨w.heap.size + 1 + 1, 0, none⟩), .pointer (some ⟨Bx, 0, none⟩), undef, .pointer pa, .pointer (some ⟨w.heap.size, 0, none⟩), .int .i64 ta, .int .i64 many, .int .i64 v, .func (.func 58) #[] #[.pointer (some ⟨w.heap.size + 3, 0, none⟩), .pointer (some ⟨w.heap.size + 3 + 1, 0, none⟩), .pointer (some ⟨w.heap.size + 3 + 3, 0, none⟩), .pointer (some ⟨w.heap.size + 3 + 2, 0, none⟩)], .agg #[.int .i64 x.1, .int .i64 x.2], undef, undef, undef, undef, undef, undef, undef, undef, undef, undef], defers := [] })
  (fun x a' => Own.from (fun s A B row hs hg hr => by
   obtain ⟨Bx, h1, h2, h3⟩ := hs
   exact ⟨Bx, h1, (hg.block Bx (blk_lt h2) (fun e => by obtain ⟨o, ho, hc⟩ := hr Bx e.symm; rw [h2] at ho; cases ho; cases hc)).trans h2, h3⟩) _) ?assign ?body ?done ?stop
 case assign =>
  rintro l pre x W K ⟨⟨hp, b1, b2, b0⟩, hB⟩ hK
  gi_wp2
  exact hK _ _ ((KeepsOthers.alloc _ _).from _) (KeepX.below ((Below.refl _ W).alloc (Nat.le_refl _) _)) ⟨⟨hp, b1.alloc _, b2.alloc _, blk_alloc b0 _⟩, hB.alloc hB.size _⟩ ⟨W.heap.size, b2.lt, blk_new W _, rfl⟩
 case body =>
  rintro l pre x a' W hl ⟨r, hr⟩ ⟨⟨hp, b1, b2, b0⟩, hB⟩ ⟨Bx, hBx, bX, rfl⟩ hlt
  have g51' : Fence.wide.fn 51 := trivial
  have g28' : Fence.wide.fn 28 := trivial
  have g51 : (Fence.wide.inRound l).fn 51 := trivial
  have g28 : (Fence.wide.inRound l).fn 28 := trivial
  have gx : W.cell? ⟨Bx, 0, none⟩ = some (.int .i64 x.1) := (blk_cell bX 0).trans rfl
  have gx1 : W.cell? ⟨Bx, 1, none⟩ = some (.int .i64 x.2) := (blk_cell bX 1).trans rfl
  have gt : W.cell? ⟨w.heap.size, 0, none⟩ = some (.int .i64 ta) := (blk_cell b0 0).trans rfl
  have gt1 : W.cell? ⟨w.heap.size, 1, none⟩ = some (.int .i64 tb) := (blk_cell b0 1).trans rfl
  have hCr := cutP_range x.1 x.2 ta tb
  have hsc := scut_calls x.1 x.2 ta tb
  have hLE : latE ta tb x = decide ((cutP x.1 x.2 ta tb).1 ≥ (cutP x.1 x.2 ta tb).2) := rfl
  have hLO := latO_snoc ta tb pre x
  obtain ⟨C1, hC1⟩ : ∃ C, (cutP x.1 x.2 ta tb).1 = C := ⟨_, rfl⟩
  obtain ⟨C2, hC2⟩ : ∃ C, (cutP x.1 x.2 ta tb).2 = C := ⟨_, rfl⟩
  rw [hC1, hC2] at hCr hsc hLE
  rw [hC2] at hLO
  have HSC := Aside0.mk hsc
  have HLO := Aside0.mk hLO
  have HLE := Aside0.mk hLE
  have HB1 := Aside0.mk b1
  have HB2 := Aside0.mk b2
  have HB0 := Aside0.mk b0
  have hwr : IntKind.i64.wrap (C2 - 1) = C2 - 1 := by rw [IntKind.wrap_i64]; omega
  clear hsc hC1 hC2 hLO hLE b0 b1 b2 bX
  by_cases hcc : C1 ≥ C2
  ·have e1 : decide (C1 ≥ C2) = true := by simp; omega
   gi_wp2_with (first
    | (gi_at_call 51; refine (CallsIn.inRound l (callsIn_wide.2 (HSC.out _))).mono ?_; rintro e w2 ⟨rfl, hb2'⟩; have nc := blk_new w2 (.cells #[.int .i64 C1, .int .i64 C2] 25 (0, 0)); have hbA := hb2'.alloc hb2'.size (.cells #[.int .i64 C1, .int .i64 C2] 25 (0, 0)))
    | (gi_at_call 28; refine (CallsIn.inRound l (callsIn_wide.2 (pempty_calls (C1, C2) hCr _))).mono ?_; rintro e w3 ⟨rfl, hb3⟩; have hbC := below_step hbA hb3))
   exact ⟨(keepsOthers_below hbC).from _, ⟨pre, x, rfl, rfl, hp, by rw [HLE.out, e1]; rfl, blk_below HB1.out hbC, blk_below HB2.out hbC, blk_below HB0.out hbC⟩, hB.trans (hbC.mono hB.size)⟩
  ·have e1 : decide (C1 ≥ C2) = false := by simp; omega
   gi_wp2_with (first
    | (gi_at_call 51; refine (CallsIn.inRound l (callsIn_wide.2 (HSC.out _))).mono ?_; rintro e w2 ⟨rfl, hb2'⟩; have nc := blk_new w2 (.cells #[.int .i64 C1, .int .i64 C2] 25 (0, 0)); have hbA := hb2'.alloc hb2'.size (.cells #[.int .i64 C1, .int .i64 C2] 25 (0, 0)))
    | (gi_at_call 28; refine (CallsIn.inRound l (callsIn_wide.2 (pempty_calls (C1, C2) hCr _))).mono ?_; rintro e w3 ⟨rfl, hb3⟩; have hbC := below_step hbA hb3; have nc3 := blk_below nc hb3; have gc2 : w3.cell? ⟨w2.heap.size, 1, none⟩ = some (.int .i64 C2) := (blk_cell nc3 1).trans rfl; have k1 : Boxed w3 _ _ _ := blk_below HB1.out hbC; have k2 : Boxed w3 _ _ _ := blk_below HB2.out hbC; have gk1 := k1.cell; have gk2 := k2.cell; have gf1 := k1.frozen; have gf2 := k2.frozen; have K1 := Aside0.mk k1; have K2 := Aside0.mk k2; clear k1 k2))
   have h3 := (K1.out.set (.int .i64 (C2 - 1))).other (B' := w.heap.size + 1 + 1) (by omega) (.bool true)
   have h4 := (K2.out.other (B' := w.heap.size + 1) (by omega) (.int .i64 (C2 - 1))).set (.bool true)
   have hbD := ((hB.trans (hbC.mono hB.size)).setCell (p := ⟨w.heap.size + 1, 0, none⟩) (by show w.heap.size ≤ w.heap.size + 1; omega) (.int .i64 (C2 - 1))).setCell (p := ⟨w.heap.size + 1 + 1, 0, none⟩) (by show w.heap.size ≤ w.heap.size + 1 + 1; omega) (.bool true)
   refine ⟨((keepsOthers_below hbC).trans ((KeepsOthers.setCell _ _ _).trans (KeepsOthers.setCell _ _ _))).from _, fun k cs e f hk hn => ?_, ⟨fun y hy => ?_, ?_, ?_, ?_⟩, hbD⟩
   ·have hn1 : k ≠ w.heap.size + 1 := fun e => hn (.inl e)
    have hn2 : k ≠ w.heap.size + 1 + 1 := fun e => hn (.inr e)
    exact (Below.heap_setCell _ _ _ _ hn2).trans ((Below.heap_setCell _ _ _ _ hn1).trans (blk_below hk hbC))
   ·rcases List.mem_append.1 hy with hy | hy
    ·exact hp y hy
    ·obtain rfl := List.mem_singleton.1 hy
     rw [HLE.out, e1]; rfl
   ·rw [HLO.out]; exact h3
   ·rw [HLO.out]; exact h4
   ·exact (Below.heap_setCell _ _ _ _ (by show w.heap.size ≠ w.heap.size + 1 + 1; omega)).trans ((Below.heap_setCell _ _ _ _ (by show w.heap.size ≠ w.heap.size + 1; omega)).trans (blk_below HB0.out hbC))
 case done =>
  rintro D xs W hD hxs ⟨⟨hp, b1, b2, b0⟩, hB⟩ hK
  have he : latestL L ta tb many v = latO ta tb xs := by unfold latestL; rw [← hxs, takeWhile_all _ _ hp]
  obtain ⟨A1, hA1⟩ : ∃ A, (latO ta tb xs).1 = A := ⟨_, rfl⟩
  obtain ⟨A2, hA2⟩ : ∃ A, (latO ta tb xs).2 = A := ⟨_, rfl⟩
  have he : latestL L ta tb many v = (A1, A2) := by rw [he, ← hA1, ← hA2]
  rw [hA1] at b1
  rw [hA2] at b2
  clear hA1 hA2 hp b0
  have gc := b1.cell
  have gf := b1.frozen
  have gd := b2.cell
  have ge := b2.frozen
  have HB1 := Aside0.mk b1
  have HB2 := Aside0.mk b2
  clear b1 b2
  gi_wp2
  refine wpIn_wide.2 (wp_calm ?_)
  refine start_ (n := 4) (S := fun w' => w'.cell? ⟨w.heap.size + 1, 0, none⟩ = some (.int .i64 A1) ∧ w'.cell? ⟨w.heap.size + 1 + 1, 0, none⟩ = some (.bool A2)) (ds := [3]) #[false, false, false, false] (by kernel_rfl) rfl rfl ⟨gc, gd⟩ (fun hHeld => ?_); refine with_tabW latestRg.tab6 latestRg.bits6 (fun HT_ HW_ => ?_)
  refine take_ (i := 0) (N := some 27) (v := ?_) (a' := ?_) #[true, false, false, false] rfl rfl (take_ofW HT_.out HW_.out (by kernel_rfl)) (fun _ _ _ h => h) (Or.inl ⟨by rfl, ?_⟩) hHeld ?_ ?_
  rotate_left
  ·rintro w' ⟨s0, s1⟩
   go_simp
   with_reducible rfl
  rotate_left
  ·simp only [Act.put, List.setIfInBounds_toArray, List.set_cons_zero, List.set_cons_succ, i64_w, i32_w]
   rfl
  refine take_ (i := 1) (N := some 28) (v := ?_) (a' := ?_) #[true, true, false, false] rfl rfl (take_ofW HT_.out HW_.out (by kernel_rfl)) (fun _ _ _ h => h) (Or.inl ⟨by rfl, ?_⟩) hHeld ?_ ?_
  rotate_left
  ·rintro w' ⟨s0, s1⟩
   go_simp
   with_reducible rfl
  rotate_left
  ·simp only [Act.put, List.setIfInBounds_toArray, List.set_cons_zero, List.set_cons_succ, i64_w, i32_w]
   rfl
  refine one_ (i := 2) (N := none) #[true, true, true, false] rfl rfl (one_of HT_.out (by kernel_rfl)) (by decide) (fun K hK => ?_)
  refine skip_ (w1 := ?_) (by rfl) rfl ?_ ?_
  rotate_left
  ·go_simp
   rfl
  have gc2 := HB1.out.set (.int .i64 A1) |>.cell
  have gd2 := HB2.out.other (B' := w.heap.size + 1) (by omega) (.int .i64 A1) |>.cell
  refine hK.out _ _ ⟨gc2, gd2⟩ (fun hHeld => ?_)
  clear hK K
  refine last_ (i := 3) (N := none) #[true, true, true, true] rfl rfl (one_of HT_.out (by kernel_rfl)) (by decide) (fun K hK => ?_)
  refine skip_ (w1 := ?_) (by rfl) rfl ?_ ?_
  rotate_left
  ·go_simp
   rfl
  refine hK.out _ _ ?_
  clear hK K
  refine done_ (done_of HT_.out (by kernel_rfl)) ?_
  have hB4 := ((below_drew1 hB).setCell (p := ⟨w.heap.size + 1, 0, none⟩) (by show w.heap.size ≤ w.heap.size + 1; omega) (.int .i64 A1)).setCell (p := ⟨w.heap.size + 1 + 1, 0, none⟩) (by show w.heap.size ≤ w.heap.size + 1 + 1; omega) (.bool A2)
  have b3 := ((show Boxed W.drew _ _ _ from HB1.out).set (.int .i64 A1)).other (B' := w.heap.size + 1 + 1) (by omega) (.bool A2)
  have b4 := ((show Boxed W.drew _ _ _ from HB2.out).other (B' := w.heap.size + 1) (by omega) (.int .i64 A1)).set (.bool A2)
  have hK2 := ((KeepsOthers.drew W).trans ((KeepsOthers.setCell W.drew ⟨w.heap.size + 1, 0, none⟩ (.int .i64 A1)).trans (KeepsOthers.setCell _ ⟨w.heap.size + 1 + 1, 0, none⟩ (.bool A2)))).same D _ hK rfl
  obtain ⟨W5, hW5⟩ : ∃ W5, ((W.setCell ⟨w.heap.size + 1, 0, none⟩ (.int .i64 A1)).setCell ⟨w.heap.size + 1 + 1, 0, none⟩ (.bool A2)).drew = W5 := ⟨_, rfl⟩
  have hWe : (W.drew.setCell ⟨w.heap.size + 1, 0, none⟩ (.int .i64 A1)).setCell ⟨w.heap.size + 1 + 1, 0, none⟩ (.bool A2) = W5 := hW5
  rw [hWe] at hB4 b3 b4 hK2
  clear hWe
  have HW5 := Aside0.mk hW5
  clear hW5
  have hB5 := hB4.trans (belowK_b (w := w) (Nat.le_refl _) _ D _ (.deferred none) (by omega) hK2 rfl rfl)
  have hc1 := cell_kept b3.cell (grownBy_putObj' _ D (.deferred none)) (fun r e => by cases e; exact ⟨_, hK2, rfl⟩)
  have hc2 := cell_kept b4.cell (grownBy_putObj' _ D (.deferred none)) (fun r e => by cases e; exact ⟨_, hK2, rfl⟩)
  gi_wp2
  rw [HW5.out]
  refine ⟨by simp, .inl ⟨_, _, rfl, run_takeDeferred hK2, ?_⟩⟩
  refine ⟨.tuple #[.int .i64 A1, .bool A2], ?_, by rw [he], hB5⟩
  simp [results, Try.f22, go_sem, hc1, hc2]
 case stop =>
  rintro D c pre W hD hpre ⟨⟨pre0, x, rfl, rfl, hp, hx, b1, b2, b0⟩, hB⟩ hK
  have he : latestL L ta tb many v = latO ta tb pre0 := by
   unfold latestL
   obtain ⟨r, hr⟩ := hpre
   rw [← hr, List.append_assoc, List.singleton_append, takeWhile_stop _ _ _ _ hp hx]
  obtain ⟨A1, hA1⟩ : ∃ A, (latO ta tb pre0).1 = A := ⟨_, rfl⟩
  obtain ⟨A2, hA2⟩ : ∃ A, (latO ta tb pre0).2 = A := ⟨_, rfl⟩
  have he : latestL L ta tb many v = (A1, A2) := by rw [he, ← hA1, ← hA2]
  rw [hA1] at b1
  rw [hA2] at b2
  clear hA1 hA2 hp hx b0
  have gc := b1.cell
  have gf := b1.frozen
  have gd := b2.cell
  have ge := b2.frozen
  have HB1 := Aside0.mk b1
  have HB2 := Aside0.mk b2
  clear b1 b2
  gi_wp2
  refine wpIn_wide.2 (wp_calm ?_)
  refine start_ (n := 4) (S := fun w' => w'.cell? ⟨w.heap.size + 1, 0, none⟩ = some (.int .i64 A1) ∧ w'.cell? ⟨w.heap.size + 1 + 1, 0, none⟩ = some (.bool A2)) (ds := [3]) #[false, false, false, false] (by kernel_rfl) rfl rfl ⟨gc, gd⟩ (fun hHeld => ?_); refine with_tabW latestRg.tab6 latestRg.bits6 (fun HT_ HW_ => ?_)
  refine take_ (i := 0) (N := some 27) (v := ?_) (a' := ?_) #[true, false, false, false] rfl rfl (take_ofW HT_.out HW_.out (by kernel_rfl)) (fun _ _ _ h => h) (Or.inl ⟨by rfl, ?_⟩) hHeld ?_ ?_
  rotate_left
  ·rintro w' ⟨s0, s1⟩
   go_simp
   with_reducible rfl
  rotate_left
  ·simp only [Act.put, List.setIfInBounds_toArray, List.set_cons_zero, List.set_cons_succ, i64_w, i32_w]
   rfl
  refine take_ (i := 1) (N := some 28) (v := ?_) (a' := ?_) #[true, true, false, false] rfl rfl (take_ofW HT_.out HW_.out (by kernel_rfl)) (fun _ _ _ h => h) (Or.inl ⟨by rfl, ?_⟩) hHeld ?_ ?_
  rotate_left
  ·rintro w' ⟨s0, s1⟩
   go_simp
   with_reducible rfl
  rotate_left
  ·simp only [Act.put, List.setIfInBounds_toArray, List.set_cons_zero, List.set_cons_succ, i64_w, i32_w]
   rfl
  refine one_ (i := 2) (N := none) #[true, true, true, false] rfl rfl (one_of HT_.out (by kernel_rfl)) (by decide) (fun K hK => ?_)
  refine skip_ (w1 := ?_) (by rfl) rfl ?_ ?_
  rotate_left
  ·go_simp
   rfl
  have gc2 := HB1.out.set (.int .i64 A1) |>.cell
  have gd2 := HB2.out.other (B' := w.heap.size + 1) (by omega) (.int .i64 A1) |>.cell
  refine hK.out _ _ ⟨gc2, gd2⟩ (fun hHeld => ?_)
  clear hK K
  refine last_ (i := 3) (N := none) #[true, true, true, true] rfl rfl (one_of HT_.out (by kernel_rfl)) (by decide) (fun K hK => ?_)
  refine skip_ (w1 := ?_) (by rfl) rfl ?_ ?_
  rotate_left
  ·go_simp
   rfl
  refine hK.out _ _ ?_
  clear hK K
  refine done_ (done_of HT_.out (by kernel_rfl)) ?_
  have hB4 := ((below_drew1 hB).setCell (p := ⟨w.heap.size + 1, 0, none⟩) (by show w.heap.size ≤ w.heap.size + 1; omega) (.int .i64 A1)).setCell (p := ⟨w.heap.size + 1 + 1, 0, none⟩) (by show w.heap.size ≤ w.heap.size + 1 + 1; omega) (.bool A2)
  have b3 := ((show Boxed W.drew _ _ _ from HB1.out).set (.int .i64 A1)).other (B' := w.heap.size + 1 + 1) (by omega) (.bool A2)
  have b4 := ((show Boxed W.drew _ _ _ from HB2.out).other (B' := w.heap.size + 1) (by omega) (.int .i64 A1)).set (.bool A2)
  have hK2 := ((KeepsOthers.drew W).trans ((KeepsOthers.setCell W.drew ⟨w.heap.size + 1, 0, none⟩ (.int .i64 A1)).trans (KeepsOthers.setCell _ ⟨w.heap.size + 1 + 1, 0, none⟩ (.bool A2)))).same D _ hK rfl
  obtain ⟨W5, hW5⟩ : ∃ W5, ((W.setCell ⟨w.heap.size + 1, 0, none⟩ (.int .i64 A1)).setCell ⟨w.heap.size + 1 + 1, 0, none⟩ (.bool A2)).drew = W5 := ⟨_, rfl⟩
  have hWe : (W.drew.setCell ⟨w.heap.size + 1, 0, none⟩ (.int .i64 A1)).setCell ⟨w.heap.size + 1 + 1, 0, none⟩ (.bool A2) = W5 := hW5
  rw [hWe] at hB4 b3 b4 hK2
  clear hWe
  have HW5 := Aside0.mk hW5
  clear hW5
  have hB5 := hB4.trans (belowK_b (w := w) (Nat.le_refl _) _ D _ (.deferred none) (by omega) hK2 rfl rfl)
  have hc1 := cell_kept b3.cell (grownBy_putObj' _ D (.deferred none)) (fun r e => by cases e; exact ⟨_, hK2, rfl⟩)
  have hc2 := cell_kept b4.cell (grownBy_putObj' _ D (.deferred none)) (fun r e => by cases e; exact ⟨_, hK2, rfl⟩)
  gi_wp2
  rw [HW5.out]
  refine ⟨by simp, .inl ⟨_, _, rfl, run_takeDeferred hK2, ?_⟩⟩
  refine ⟨.tuple #[.int .i64 A1, .bool A2], ?_, by rw [he], hB5⟩
  simp [results, Try.f22, go_sem, hc1, hc2]
theorem latest_calls (fv : Value) (L : List (Int × Int)) (ta tb many v : Int) (w : World) (hF : FreeIs w fv L) (hL : Lev L) :
  Calls Try.prog 22 #[fv, .agg #[.int .i64 ta, .int .i64 tb], .int .i64 many, .int .i64 v] w fun e w' => e = .returned (.tuple #[.int .i64 (latestL L ta tb many v).1, .bool (latestL L ta tb many v).2]) ∧ Below w.heap.size w w' := by
 rcases id hF with ⟨rfl, _⟩ | ⟨p, q, c, rfl, _⟩
 ·exact latest_ptr _ _ rfl L ta tb many v w hF hL
 ·exact latest_ptr _ _ rfl L ta tb many v w hF hL
end Go.Proofs.Ytlddccmgamlccaa.Us

set_option linter.unusedVariables false
set_option linter.unusedSimpArgs false
namespace Go.Proofs.Ytlddccmgamlccaa.Us
open Go Go.Proofs Go.RowKit Go.Lib Go.Proofs.YtlddccmgamlccaaW.PrintWords Go.Proofs.YtlddccmgamlccaaW.PrintLast Go.Proofs.YtlddccmgamlccaaW.PrintMore
open Go.Proofs.Ytlddccmgamlccaa.PJoin (S25 k25 z25 k25_mkM k25_openM info25)

def toS (x : Int × Int) : S25 := ⟨x.1, x.2⟩
/-- a variable at s that holds a row of spans, laid since -/
def OutIs (s B : Nat) (pre : List (Int × Int)) (W : World) : Prop :=
 ∃ v, W.heap[s]? = some (.cells #[v] 50 (0, 0)) ∧ Kd.R k25 25 W B (fun _ => True) v (pre.map toS) ∧ B ≤ W.heap.size ∧ s < B
theorem OutIs.below {s B : Nat} {pre : List (Int × Int)} {A C : World} (h : OutIs s B pre A) (hb : Below A.heap.size A C) : OutIs s B pre C := by
 obtain ⟨v, h1, h2, h3, h4⟩ := h
 exact ⟨v, blk_below h1 hb, Kd.R_below h2 hb, Nat.le_trans h3 hb.size, h4⟩
/-- what lay ahead of B stays, but for s -/
structure KeepS (s B : Nat) (W W' : World) : Prop where
 os : W'.os = W.os
 tape : W'.tape = W.tape
 output : W'.output = W.output
 size : W.heap.size ≤ W'.heap.size
 block : ∀ k, k < B → k ≠ s → W'.heap[k]? = W.heap[k]?

set_option maxRecDepth 100000 in
set_option maxHeartbeats 4000000 in
theorem spans1_calls (s B : Nat) (pre : List (Int × Int)) (x y : Int) (w : World) (h : OutIs s B pre w) (hn : pre.length < 1099511627777) :
  Calls Try.prog 46 #[.agg #[.int .i64 x, .int .i64 y], .pointer (some ⟨s, 0, none⟩)] w fun e w' => e = .returned (.bool (decide (pre.length + 1 < 200))) ∧ OutIs s B (pre ++ [(x, y)]) w' ∧ KeepS s B w w' := by
 obtain ⟨v, h1, h2, h3, h4⟩ := h
 have hba := (Below.refl w.heap.size w).alloc (Nat.le_refl _) (.cells #[.int .i64 x, .int .i64 y] 25)
 have HR := Aside0.mk (Kd.R_below h2 hba)
 have HH := Aside0.mk h1
 have hbB := Aside0.mk (hba.mono h3)
 have gs : (w.alloc (.cells #[.int .i64 x, .int .i64 y] 25)).cell? ⟨s, 0, none⟩ = some v := (blk_cell (blk_alloc h1 _) 0).trans rfl
 have hxl := Aside0.mk (show (pre.map toS).length = pre.length by simp)
 clear h1 h2 hba
 go_enter Try.func46, Try.ntmps46
 go_wp2_with (first
  | ((with_reducible refine gate_builtin (b := .append) (xs := #[.tmp 4, .tmp 6]) rfl ?_); at_builtin
     refine Kd.R_append k25 (w0 := w) B rfl (.tmp 4) (.tmp 6) 50 25 (.agg #[.int .i64 0, .int .i64 0]) 16 rfl Try.underlying50 info25 rfl (by decide) (by omega) v (pre.map toS) ⟨x, y⟩ [.int .i64 x, .int .i64 y] (fun _ => True) (fun _ => False) rfl (by show Value.slice (some ⟨w.heap.size + 1, 0, none⟩) 1 1 = _; rw [size_alloc]) ?aP (fun _ hk => hk.elim) ?aF ?aO ?aB ?aS ?aL ?_
     (case aP => exact k25_mkM _ _ _ ⟨x, y⟩)
     (case aF => exact fun _ _ => trivial)
     (case aO => exact HR.out)
     (case aB => exact hbB.out)
     (case aS => rw [size_alloc]; omega)
     (case aL => rw [hxl.out]; omega)
     intro v1 w1 ho hb hg hat
     have h1s : w1.heap[s]? = some (.cells #[v] 50 (0, 0)) := (hb.block s (by omega)).trans HH.out
     have gs1 := (blk_cell h1s 0).trans rfl
     obtain ⟨A1, c1, rfl⟩ := Kd.R_slice ho
     have gf1 := blk_frozen h1s 0))
 go_ret
 have hlen : (pre.map toS ++ [(⟨x, y⟩ : S25)]).length = pre.length + 1 := by simp
 rw [hlen] at ho
 have hm : (pre ++ [(x, y)]).map toS = pre.map toS ++ [(⟨x, y⟩ : S25)] := by simp [toS]
 refine ⟨congrArg (fun b => Ending.returned (Value.bool b)) (decide_eq_decide.2 (by omega)), ⟨_, blk_put h1s 0 _ rfl, ?_, ?_, h4⟩, hb.os, hb.tape, hb.output, ?_, fun k hk hks => (Below.heap_setCell _ _ _ _ hks).trans (hb.block k hk)⟩
 ·rw [hm]
  exact Kd.R_mono (Kd.R_far (p := ⟨s, 0, none⟩) (Kd.R_bound ho) (fun k hk e => by have h5 := hk.2.1; have h6 : k = s := e; omega) _) (fun _ _ => trivial)
 ·have := hb.size; simp [World.setCell]; omega
 ·simp [World.setCell]; have := hg.size; rw [size_alloc] at this; omega
end Go.Proofs.Ytlddccmgamlccaa.Us

set_option linter.unusedVariables false
set_option linter.unusedSimpArgs false
namespace Go.Proofs.Ytlddccmgamlccaa.Us
open Go Go.Proofs Go.RowKit Go.Lib Go.Proofs.YtlddccmgamlccaaW.PrintWords Go.Proofs.YtlddccmgamlccaaW.PrintLast Go.Proofs.YtlddccmgamlccaaW.PrintMore
open Go.Proofs.Ytlddccmgamlccaa.PJoin (S25 k25 z25 k25_mkM k25_openM info25 joinR joined)

set_option maxRecDepth 100000 in
set_option maxHeartbeats 8000000 in
theorem starts1_fn (s b1 b2 b3 b4 : Nat) (fv : Value) (L : List (Int × Int)) (t many v : Int) (hL : Lev L) (W0 : World) (hF : FreeIs W0 fv L)
  (c1 : W0.heap[b1]? = some (.cells #[fv] 28 (0, 0))) (c2 : W0.heap[b2]? = some (.cells #[.int .i64 t] 23 (0, 0))) (c3 : W0.heap[b3]? = some (.cells #[.int .i64 v] 3 (0, 0)))
  (c4 : W0.heap[b4]? = some (.cells #[.int .i64 many] 23 (0, 0))) (cS : W0.heap[s]? = some (.cells #[.slice none 0 0] 50 (0, 0))) (hsb4 : b4 ≠ s) :
  Calls Try.prog 58 #[.func (.func 46) #[] #[.pointer (some ⟨s, 0, none⟩)], .pointer (some ⟨b1, 0, none⟩), .pointer (some ⟨b2, 0, none⟩), .pointer (some ⟨b3, 0, none⟩), .pointer (some ⟨b4, 0, none⟩)] W0 fun e W' => e = .returned (.tuple #[]) ∧
   ∃ n1, OutIs s n1 ((startsR L t many v).take 200) W' ∧ W0.heap.size ≤ n1 ∧ KeepS s W0.heap.size W0 W' := by
 have g1 : W0.cell? ⟨b1, 0, none⟩ = some fv := (blk_cell c1 0).trans rfl
 have g2 : W0.cell? ⟨b2, 0, none⟩ = some (.int .i64 t) := (blk_cell c2 0).trans rfl
 have g3 : W0.cell? ⟨b3, 0, none⟩ = some (.int .i64 v) := (blk_cell c3 0).trans rfl
 have hsW := blk_lt cS
 have hb4W := blk_lt c4
 have HC4 := Aside0.mk c4
 have HCS := Aside0.mk cS
 have HW := Aside0.mk (wide_calls fv L t v W0 hF hL)
 have hwlen : (wideR L t v).length ≤ 1099511627776 := by
  have h1 := PJoin.joined_length (wideN L t v L.length)
  have h2 := wideN_len L t v L.length
  have h3 := hL.len
  unfold wideR PJoin.joinR
  rw [List.length_map]
  omega
 obtain ⟨R, hRR⟩ : ∃ R, wideR L t v = R := ⟨_, rfl⟩
 have hRg := wideR_range L t v
 have hSR : startsR L t many v = R.filterMap (startOne many) := by rw [← hRR]; rfl
 rw [hRR] at HW hwlen hRg
 rw [hSR]
 clear hF c1 c2 c3 c4 cS hRR hSR
 go_enter Try.func58, Try.ntmps58
 refine wp_scope_straight ?_
 go_wp2
 refine wp_label ?_
 go_wp2_with (go_at_call 59; refine HW.out.mono ?_; rintro e w1 ⟨v0, rfl, R1, hb1⟩; obtain ⟨A, c, rfl⟩ := Kd.R_slice R1)
 have HR1 := Aside0.mk (spRow_of R1)
 have h4 := Aside0.mk (blk_below HC4.out hb1)
 obtain ⟨n1, hn1e⟩ : ∃ n1, w1.heap.size = n1 := ⟨_, rfl⟩
 have hn1 : W0.heap.size ≤ n1 := by rw [← hn1e]; exact hb1.size
 have HO1 := Aside0.mk (show OutIs s n1 [] w1 from ⟨_, blk_below HCS.out hb1, Kd.R_nil _ _ _ _ _, by omega, by omega⟩)
 have HK1 := Aside0.mk (show KeepS s W0.heap.size W0 w1 from ⟨hb1.os, hb1.tape, hb1.output, hb1.size, fun k hk _ => hb1.block k hk⟩)
 have HN1 := Aside0.mk hn1e
 clear R1 hb1 hn1e
 go_loopw [14] (fun v14 wr => ∃ i : Nat, v14 = .int .i64 (i : Int) ∧ i ≤ R.length ∧ (∀ j (h : j < R.length), ∃ g, A = some ⟨g, 0, none⟩ ∧ W0.heap.size ≤ g ∧ g < n1 ∧ ∃ cs, wr.heap[g]? = some (.cells cs 25 (0, 0)) ∧ cs[j * 2]? = some (.int .i64 R[j].f0) ∧ cs[j * 2 + 1]? = some (.int .i64 R[j].f1)) ∧
   wr.heap[b4]? = some (.cells #[.int .i64 many] 23 (0, 0)) ∧ OutIs s n1 ((R.take i).filterMap (startOne many)) wr ∧ ((R.take i).filterMap (startOne many)).length < 200 ∧ KeepS s W0.heap.size W0 wr)
  (fun v14 wr => R.length - natV v14)
 case atStart =>
  refine ⟨0, rfl, Nat.zero_le _, fun j hj => ?_, h4.out, HO1.out, by simp, HK1.out⟩
  obtain ⟨g, e1, e2, cs, e3, e4, e5⟩ := HR1.out j hj
  exact ⟨g, e1, e2, by rw [← HN1.out]; exact blk_lt e3, cs, e3, e4, e5⟩
 case round =>
  obtain ⟨i, rfl, hi, hRow, hc4, hJr, hpl, hKr⟩ := hrel
  by_cases hlt : i < R.length
  ·have e1 : decide ((i : Int) < (R.length : Int)) = true := by simp; omega
   have hw1 : IntKind.i64.wrap ((i : Int) + 1) = (i : Int) + 1 := by rw [IntKind.wrap_i64]; omega
   obtain ⟨g, rfl, hgB, hgn, cs, hcs, hx, hy⟩ := hRow i hlt
   obtain ⟨x, hxx⟩ : ∃ x, R[i].f0 = x := ⟨_, rfl⟩
   obtain ⟨y, hyy⟩ : ∃ y, R[i].f1 = y := ⟨_, rfl⟩
   have hxy := hRg _ (List.getElem_mem hlt)
   rw [hxx] at hx hxy
   rw [hyy] at hy hxy
   have gx : wr.cell? ⟨g, i * 2, none⟩ = some (.int .i64 x) := (blk_cell hcs (i * 2)).trans hx
   have gy : wr.cell? ⟨g, i * 2 + 1, none⟩ = some (.int .i64 y) := (blk_cell hcs (i * 2 + 1)).trans hy
   have HRow := Aside0.mk hRow
   have hc4c : wr.cell? ⟨b4, 0, none⟩ = some (.int .i64 many) := (blk_cell hc4 0).trans rfl
   have HC4r := Aside0.mk hc4
   have HJr := Aside0.mk hJr
   have HKr := Aside0.mk hKr
   have HX := Aside0.mk hxx
   have HY2 := Aside0.mk hyy
   clear hRow hc4 hJr hcs hx hy hxx hyy hKr
   have hba : Below wr.heap.size wr (wr.alloc (.cells #[.int .i64 x, .int .i64 y] 25 (0, 0))) := (Below.refl _ wr).alloc (Nat.le_refl _) _
   have nz := blk_new wr (.cells #[.int .i64 x, .int .i64 y] 25 (0, 0))
   have s4 : (wr.alloc (.cells #[.int .i64 x, .int .i64 y] 25 (0, 0))).cell? ⟨b4, 0, none⟩ = some (.int .i64 many) := below_cell1 hba hc4c
   have s0 : (wr.alloc (.cells #[.int .i64 x, .int .i64 y] 25 (0, 0))).cell? ⟨wr.heap.size, 0, none⟩ = some (.int .i64 x) := (blk_cell nz 0).trans rfl
   have s1 : (wr.alloc (.cells #[.int .i64 x, .int .i64 y] 25 (0, 0))).cell? ⟨wr.heap.size, 1, none⟩ = some (.int .i64 y) := (blk_cell nz 1).trans rfl
   by_cases hN : y < 1099511627776
   ·have e2 : decide (y < 1099511627776) = true := by simp; omega
    have hll := len_calls x y ⟨⟨by omega, by omega⟩, ⟨by omega, by omega⟩⟩
    obtain ⟨m, hm⟩ : ∃ m, lenC x y = m := ⟨_, rfl⟩
    have hmr : m = y - x := by rw [← hm]; unfold lenC mn; split <;> split <;> (try split) <;> omega
    rw [hm] at hll
    have HL := Aside0.mk hll
    have HM := Aside0.mk hm
    clear hll hm
    go_wp2_with (fail)
    refine start_ (n := 4) (S := fun w' => w'.cell? ⟨b4, 0, none⟩ = some (.int .i64 many) ∧ w'.cell? ⟨wr.heap.size, 0, none⟩ = some (.int .i64 x) ∧ w'.cell? ⟨wr.heap.size, 1, none⟩ = some (.int .i64 y)) (ds := []) #[false, false, false, false] (by kernel_rfl) rfl rfl ⟨s4, s0, s1⟩ (fun hHeld => ?_); refine with_tabW startsRg.tab5 startsRg.bits5 (fun HT_ HW_ => ?_)
    refine take_ (i := 0) (N := some 23) (v := ?_) (a' := ?_) #[true, false, false, false] rfl rfl (take_ofW HT_.out HW_.out (by kernel_rfl)) (fun _ _ _ h => h) (Or.inl ⟨by rfl, ?_⟩) hHeld ?_ ?_
    rotate_left
    ·rintro w' ⟨s0, s1, s2⟩
     go_simp
     with_reducible rfl
    rotate_left
    ·simp only [Act.put, List.setIfInBounds_toArray, List.set_cons_zero, List.set_cons_succ, i64_w, i32_w]
     rfl
    refine take_ (i := 1) (N := some 24) (v := ?_) (a' := ?_) #[true, true, false, false] rfl rfl (take_ofW HT_.out HW_.out (by kernel_rfl)) (fun _ _ _ h => h) (Or.inl ⟨by rfl, ?_⟩) hHeld ?_ ?_
    rotate_left
    ·rintro w' ⟨s0, s1, s2⟩
     go_simp
     with_reducible rfl
    rotate_left
    ·simp only [Act.put, List.setIfInBounds_toArray, List.set_cons_zero, List.set_cons_succ, i64_w, i32_w]
     rfl
    refine one_ (i := 2) (N := some 25) #[true, true, true, false] rfl rfl (one_of HT_.out (by kernel_rfl)) (by decide) (fun K hK => ?_)
    refine goes_ Try.func60 (by kernel_rfl) rfl #[.agg #[.int .i64 x, .int .i64 y]] (by rfl) rfl rfl (by (try simp only [List.map_toArray, List.map_cons, List.map_nil]); first | done | rfl | (simp only [List.length_drop, List.length_take]; rfl)) ?_
    with_reducible refine (HL.out _).mono ?_
    rintro ev w5 ⟨rfl, hb5⟩
    have u4 := below_cell1 hb5 s4
    have u0 := below_cell1 hb5 s0
    have u1 := below_cell1 hb5 s1
    refine ⟨_, rfl, ?_⟩
    refine hK.out _ _ ⟨u4, u0, u1⟩ (fun hHeld => ?_)
    clear hK K
    refine norm_ (a' := ?_) ?_ ?_
    rotate_left
    ·show Act.put _ (some 25) _ = _
     simp only [Act.put, List.setIfInBounds_toArray, List.set_cons_zero, List.set_cons_succ, i64_w, i32_w]
     rfl
    refine pure_ (i := 3) (N := some 26) (v := ?_) (a' := ?_) #[true, true, true, true] rfl rfl (any_of HT_.out (by kernel_rfl)) (fun _ _ _ h => h) (Or.inl ⟨by rfl, ?_⟩) ?_ ?_
    rotate_left
    ·intro w'
     go_simp
     with_reducible rfl
    rotate_left
    ·simp only [Act.put, List.setIfInBounds_toArray, List.set_cons_zero, List.set_cons_succ, i64_w, i32_w]
     rfl
    refine done_ (done_of HT_.out (by kernel_rfl)) ?_
    have hbq : Below wr.heap.size wr w5 := hba.trans ((below_drew1 (Below.refl _ _)).trans hb5 |>.mono hba.size)
    have HJ5 := Aside0.mk (HJr.out.below hbq)
    by_cases hmm : many > m
    ·have e3 : decide (many > m) = true := by simp; omega
     go_wp2
     go_roundw
     case rel =>
      have hsO : startOne many R[i] = none := by unfold startOne; rw [HX.out, HY2.out, if_pos hN, HM.out, if_pos hmm]
      have hsn := fm_snoc (startOne many) R i hlt
      rw [hsO] at hsn
      simp only [Option.toList_none, List.append_nil] at hsn
      refine ⟨i + 1, by go_num, by omega, fun j hj => ?_, blk_below HC4r.out hbq, by rw [hsn]; exact HJ5.out, by rw [hsn]; exact hpl, ⟨hbq.os.trans HKr.out.os, hbq.tape.trans HKr.out.tape, hbq.output.trans HKr.out.output, Nat.le_trans HKr.out.size hbq.size, fun k hk hks => (hbq.block k (by have := HKr.out.size; omega)).trans (HKr.out.block k hk hks)⟩⟩
      obtain ⟨g', e', hB', hl', cs', hcs', h1', h2'⟩ := HRow.out j hj
      exact ⟨g', e', hB', hl', cs', blk_below hcs' hbq, h1', h2'⟩
     case measure => simp [natV]; omega
    ·have e3 : decide (many > m) = false := by simp; omega
     have hw2 : IntKind.i64.wrap (y - max many 1) = y - max many 1 := by rw [IntKind.wrap_i64]; omega
     have hw3 : IntKind.i64.wrap (y - max many 1 + 1) = y - max many 1 + 1 := by rw [IntKind.wrap_i64]; omega
     have hsO : startOne many R[i] = some (x, y - max many 1 + 1) := by unfold startOne; rw [HX.out, HY2.out, if_pos hN, HM.out, if_neg hmm]
     have hsn := fm_snoc (startOne many) R i hlt
     rw [hsO] at hsn
     have hp200 := hpl
     obtain ⟨pre, hpre⟩ : ∃ pre, (R.take i).filterMap (startOne many) = pre := ⟨_, rfl⟩
     rw [hpre] at hsn hp200 HJ5
     have HSN := Aside0.mk hsn
     have HPRE := Aside0.mk hpre
     have HC := Aside0.mk (spans1_calls s n1 pre x (y - max many 1 + 1) _ HJ5.out (by omega))
     clear hsn hpre hpl
     by_cases hlast : pre.length + 1 < 200
     ·have e9 : decide (pre.length + 1 < 200) = true := by simp; omega
      rw [e9] at HC
      go_wp2_with (go_at_call 46; refine HC.out.mono ?_; rintro e w6 ⟨rfl, hJ6, hk6⟩)
      go_roundw
      case rel =>
       refine ⟨i + 1, by go_num, by omega, fun j hj => ?_, ?_, ?_, ?_, ?_⟩
       ·obtain ⟨g', e', hB', hl', cs', hcs', h1', h2'⟩ := HRow.out j hj
        exact ⟨g', e', hB', hl', cs', (hk6.block g' hl' (by omega)).trans (blk_below hcs' hbq), h1', h2'⟩
       ·exact (hk6.block b4 (by omega) hsb4).trans (blk_below HC4r.out hbq)
       ·rw [HSN.out]; exact hJ6
       ·rw [HSN.out]; simp; omega
       ·exact ⟨hk6.os.trans (hbq.os.trans HKr.out.os), hk6.tape.trans (hbq.tape.trans HKr.out.tape), hk6.output.trans (hbq.output.trans HKr.out.output), Nat.le_trans HKr.out.size (Nat.le_trans hbq.size hk6.size), fun k hk hks => (hk6.block k (by omega) hks).trans ((hbq.block k (by have := HKr.out.size; omega)).trans (HKr.out.block k hk hks))⟩
      case measure => simp [natV]; omega
     ·have e9 : decide (pre.length + 1 < 200) = false := by simp; omega
      rw [e9] at HC
      go_wp2_with (go_at_call 46; refine HC.out.mono ?_; rintro e w6 ⟨rfl, hJ6, hk6⟩)
      simp only [Exit.noGoto_normal, Exit.noGoto_exit, Exit.noGoto_ret]
      refine bodyPost_end (results_none rfl _ _ _) rfl ?_
      refine ⟨rfl, n1, ?_, hn1, ⟨hk6.os.trans (hbq.os.trans HKr.out.os), hk6.tape.trans (hbq.tape.trans HKr.out.tape), hk6.output.trans (hbq.output.trans HKr.out.output), Nat.le_trans HKr.out.size (Nat.le_trans hbq.size hk6.size), fun k hk hks => (hk6.block k (by omega) hks).trans ((hbq.block k (by have := HKr.out.size; omega)).trans (HKr.out.block k hk hks))⟩⟩
      have hpf := fm_prefix (startOne many) R (i + 1)
      rw [HSN.out] at hpf
      have := List.prefix_iff_eq_take.1 hpf
      rw [show (pre ++ (some (x, y - max many 1 + 1)).toList).length = 200 by simp; omega] at this
      rw [← this]
      exact hJ6
   ·have e2 : decide (y < 1099511627776) = false := by simp; omega
    have hbq : Below wr.heap.size wr (wr.alloc (.cells #[.int .i64 x, .int .i64 y] 25 (0, 0))) := hba
    have HJ5 := Aside0.mk (HJr.out.below hbq)
    have hsO : startOne many R[i] = some (x, y) := by unfold startOne; rw [HX.out, HY2.out, if_neg hN]
    have hsn := fm_snoc (startOne many) R i hlt
    rw [hsO] at hsn
    have hp200 := hpl
    obtain ⟨pre, hpre⟩ : ∃ pre, (R.take i).filterMap (startOne many) = pre := ⟨_, rfl⟩
    rw [hpre] at hsn hp200 HJ5
    have HSN := Aside0.mk hsn
    have HPRE := Aside0.mk hpre
    have HC := Aside0.mk (spans1_calls s n1 pre x (y) _ HJ5.out (by omega))
    clear hsn hpre hpl
    by_cases hlast : pre.length + 1 < 200
    ·have e9 : decide (pre.length + 1 < 200) = true := by simp; omega
     rw [e9] at HC
     go_wp2_with (go_at_call 46; refine HC.out.mono ?_; rintro e w6 ⟨rfl, hJ6, hk6⟩)
     go_roundw
     case rel =>
      refine ⟨i + 1, by go_num, by omega, fun j hj => ?_, ?_, ?_, ?_, ?_⟩
      ·obtain ⟨g', e', hB', hl', cs', hcs', h1', h2'⟩ := HRow.out j hj
       exact ⟨g', e', hB', hl', cs', (hk6.block g' hl' (by omega)).trans (blk_below hcs' hbq), h1', h2'⟩
      ·exact (hk6.block b4 (by omega) hsb4).trans (blk_below HC4r.out hbq)
      ·rw [HSN.out]; exact hJ6
      ·rw [HSN.out]; simp; omega
      ·exact ⟨hk6.os.trans (hbq.os.trans HKr.out.os), hk6.tape.trans (hbq.tape.trans HKr.out.tape), hk6.output.trans (hbq.output.trans HKr.out.output), Nat.le_trans HKr.out.size (Nat.le_trans hbq.size hk6.size), fun k hk hks => (hk6.block k (by omega) hks).trans ((hbq.block k (by have := HKr.out.size; omega)).trans (HKr.out.block k hk hks))⟩
     case measure => simp [natV]; omega
    ·have e9 : decide (pre.length + 1 < 200) = false := by simp; omega
     rw [e9] at HC
     go_wp2_with (go_at_call 46; refine HC.out.mono ?_; rintro e w6 ⟨rfl, hJ6, hk6⟩)
     simp only [Exit.noGoto_normal, Exit.noGoto_exit, Exit.noGoto_ret]
     refine bodyPost_end (results_none rfl _ _ _) rfl ?_
     refine ⟨rfl, n1, ?_, hn1, ⟨hk6.os.trans (hbq.os.trans HKr.out.os), hk6.tape.trans (hbq.tape.trans HKr.out.tape), hk6.output.trans (hbq.output.trans HKr.out.output), Nat.le_trans HKr.out.size (Nat.le_trans hbq.size hk6.size), fun k hk hks => (hk6.block k (by omega) hks).trans ((hbq.block k (by have := HKr.out.size; omega)).trans (HKr.out.block k hk hks))⟩⟩
     have hpf := fm_prefix (startOne many) R (i + 1)
     rw [HSN.out] at hpf
     have := List.prefix_iff_eq_take.1 hpf
     rw [show (pre ++ (some (x, y)).toList).length = 200 by simp; omega] at this
     rw [← this]
     exact hJ6
  ·obtain rfl : i = R.length := by omega
   have e1 : decide ((R.length : Int) < (R.length : Int)) = false := by simp
   rw [List.take_length] at hJr hpl
   go_wp2
   simp only [Exit.noGoto_normal, Exit.noGoto_exit, Exit.noGoto_ret]
   refine bodyPost_end (results_none rfl _ _ _) rfl ?_
   refine ⟨rfl, n1, ?_, hn1, hKr⟩
   rw [List.take_of_length_le (by omega)]
   exact hJr
end Go.Proofs.Ytlddccmgamlccaa.Us

set_option linter.unusedVariables false
set_option linter.unusedSimpArgs false
namespace Go.Proofs.Ytlddccmgamlccaa.Us
open Go Go.Proofs Go.RowKit Go.Lib Go.Proofs.YtlddccmgamlccaaW.PrintWords Go.Proofs.YtlddccmgamlccaaW.PrintLast Go.Proofs.YtlddccmgamlccaaW.PrintMore
open Go.Proofs.Ytlddccmgamlccaa.PJoin (S25 k25 z25 k25_mkM k25_openM info25 joinR joined)

theorem run_equalIn_func_nil (w : World) (d : Nat) (f : Fn) (a b : Array Value) :
  (Op.equalIn (d + 1) 72 (.func f a b) .nilFunc).run Try.prog w = .ok false w := by
 simp [Op.equalIn, run_underlying Try.underlying72]
theorem run_eql_func_nil (w : World) (f : Fn) (a b : Array Value) :
  (binOp .eql 72 (.func f a b) .nilFunc).run Try.prog w = .ok (.bool false) w := by
 simp only [binOp]
 simp [Op.equal, Op.maxDepth, run_equalIn_func_nil w 9999 f a b]

/-- what the law's Spans tells -/
def spansL (l : List (Int × Int)) (t many v : Int) : List (Int × Int) := (startsR l t many v).take 200

set_option maxRecDepth 100000 in
set_option maxHeartbeats 8000000 in
theorem spans_ptr (pa : Option Addr) (fv : Value) (hfv : fv = .pointer pa) (L : List (Int × Int)) (t many v : Int) (w : World) (hF : FreeIs w fv L) (hL : Lev L) :
  Calls Try.prog 18 #[fv, .int .i64 t, .int .i64 many, .int .i64 v] w fun e w' => ∃ v0 : Value, e = .returned v0 ∧ Kd.R k25 25 w' w.heap.size (fun _ => True) v0 ((spansL L t many v).map toS) ∧ Below w.heap.size w w' := by
 have HF := Aside0.mk hF
 clear hF
 subst hfv
 have hsc := startsW_cells (w.alloc (.cells #[.slice none 0 0] 50)) (.pointer pa) t many v
 have hb0 : Below w.heap.size w (w.alloc (.cells #[.slice none 0 0] 50)) := (Below.refl _ w).alloc (Nat.le_refl _) _
 have n0 := blk_new w (.cells #[.slice none 0 0] 50)
 go_enter Try.func18, Try.ntmps18
 go_wp2_with (first
  | (go_at_call 35; refine (starts_calls pa t many v _).mono ?_; rintro e w1 ⟨rfl, hw1⟩; rw [← hw1] at hsc; clear hw1
     simp only [size_alloc] at hsc ⊢
     obtain ⟨d1, d2, d3, d4, hb1, hsz⟩ := hsc
     have hb2 := below_step hb0 (by simpa only [size_alloc] using hb1)
     have bx : w1.heap[w.heap.size]? = some (.cells #[.slice none 0 0] 50 (0, 0)) := (hb1.block _ (by simp)).trans n0
     have HF1 := Aside0.mk (HF.out.below hb2)
     have HS := Aside0.mk (starts1_fn w.heap.size _ _ _ _ (.pointer pa) L t many v hL w1 HF1.out d1 d2 d3 d4 bx (by omega))
     have HB2 := Aside0.mk hb2
     have HSZ := Aside0.mk hsz
     clear d1 d2 d3 d4 hb1 hsz bx hb2))
 rw [run_eql_func_nil]
 go_wp2_with (go_at_call 58; refine HS.out.mono ?_; rintro e w2 ⟨rfl, n1, ⟨v0, hv, hR, hn, hs⟩, hn1, hK⟩; have gv := (blk_cell hv 0).trans rfl)
 go_ret
 refine ⟨v0, rfl, Kd.R_lower hR (by omega), ?_⟩
 exact ⟨hK.os.trans HB2.out.os, hK.tape.trans HB2.out.tape, hK.output.trans HB2.out.output, Nat.le_trans HB2.out.size hK.size, fun k hk => (hK.block k (by have := HSZ.out; omega) (by omega)).trans (HB2.out.block k hk)⟩
theorem spans_calls (fv : Value) (L : List (Int × Int)) (t many v : Int) (w : World) (hF : FreeIs w fv L) (hL : Lev L) :
  Calls Try.prog 18 #[fv, .int .i64 t, .int .i64 many, .int .i64 v] w fun e w' => ∃ v0 : Value, e = .returned v0 ∧ Kd.R k25 25 w' w.heap.size (fun _ => True) v0 ((spansL L t many v).map toS) ∧ Below w.heap.size w w' := by
 rcases id hF with ⟨rfl, _⟩ | ⟨p, q, c, rfl, _⟩
 ·exact spans_ptr _ _ rfl L t many v w hF hL
 ·exact spans_ptr _ _ rfl L t many v w hF hL
end Go.Proofs.Ytlddccmgamlccaa.Us

set_option linter.unusedVariables false
set_option linter.unusedSimpArgs false
namespace Go.Proofs.Ytlddccmgamlccaa.Us
open Go Go.Proofs Go.RowKit Go.Lib Go.Proofs.YtlddccmgamlccaaW.PrintWords Go.Proofs.YtlddccmgamlccaaW.PrintLast Go.Proofs.YtlddccmgamlccaaW.PrintMore

theorem FreeIs.made {w : World} {p q c : Nat} {l : List (Int × Int)} (h : StepsIs w p q c l) : FreeIs w (.pointer (some ⟨p, 0, none⟩)) l := .inr ⟨p, q, c, rfl, h⟩
theorem one_lev : Lev [(0, 4)] := ⟨List.pairwise_singleton _ _, fun s hs => by obtain rfl := List.mem_singleton.1 hs; decide, ⟨4, [], rfl⟩, fun s hs => by obtain rfl := List.mem_singleton.1 hs; decide⟩
theorem one_turn : turnL (fun v => v + byT (-3)) [(0, 4)] 5 9 = [(0, 4), (5, 1), (9, 4)] := by decide
theorem one_e1 : earlyL [(0, 4), (5, 1), (9, 4)] 3 3 2 = 9 := by decide
theorem one_e2 : earlyL [(0, 4), (5, 1), (9, 4)] 3 2 2 = 3 := by decide
theorem one_e3 : earlyL [(0, 4), (5, 1), (9, 4)] 0 1 5 = 1099511627776 := by decide
theorem one_e4 : widestL [(0, 4), (5, 1), (9, 4)] 4 2 = 1 := by decide

set_option maxRecDepth 100000 in
set_option maxHeartbeats 8000000 in
theorem one11_calls (w : World) : Calls Try.prog 17 #[] w fun e w' => e = .returned (.bool true) ∧ Below w.heap.size w w' := by
 go_enter Try.func17, Try.ntmps17
 go_wp2_with (first
  | (go_at_call 29; refine (flat_calls 4 _).mono ?_; rintro e w1 ⟨p, q, c, rfl, S1, hp, hq, hb1⟩; rw [show lvT 4 = 4 by decide] at S1; have HS1 := Aside0.mk S1; clear S1)
  | (go_at_call 15; refine (add_calls p q c [(0, 4)] 5 9 (-3) _ HS1.out one_lev (by decide)).mono ?_; rintro e w2 ⟨rfl, q2, c2, S2, T2⟩; rw [one_turn] at S2; have HS2 := Aside0.mk S2; have HT2 := Aside0.mk T2; have hL2 := Aside0.mk (show Lev [(0, 4), (5, 1), (9, 4)] by rw [← one_turn]; exact one_lev.turn _ _ _); clear S2 T2)
  | (go_at_call 9; first
    | (with_reducible refine (earliest_calls (.pointer (some ⟨p, 0, none⟩)) [(0, 4), (5, 1), (9, 4)] 3 3 2 _ (FreeIs.made HS2.out) hL2.out).mono ?_; rintro e w3 ⟨rfl, hb3⟩; rw [one_e1]; have HS3 := Aside0.mk (HS2.out.below hb3); have HB3 := Aside0.mk hb3; clear hb3)
    | (with_reducible refine (earliest_calls (.pointer (some ⟨p, 0, none⟩)) [(0, 4), (5, 1), (9, 4)] 3 2 2 _ (FreeIs.made HS3.out) hL2.out).mono ?_; rintro e w4 ⟨rfl, hb4⟩; rw [one_e2]; have HS4 := Aside0.mk (HS3.out.below hb4); have HB4 := Aside0.mk (below_step HB3.out hb4); clear hb4)
    | (with_reducible refine (earliest_calls (.pointer (some ⟨p, 0, none⟩)) [(0, 4), (5, 1), (9, 4)] 0 1 5 _ (FreeIs.made HS4.out) hL2.out).mono ?_; rintro e w5 ⟨rfl, hb5⟩; rw [one_e3]; have HS5 := Aside0.mk (HS4.out.below hb5); have HB5 := Aside0.mk (below_step HB4.out hb5); clear hb5))
  | (go_at_call 12; refine (widest_calls p q2 c2 [(0, 4), (5, 1), (9, 4)] 4 2 _ HS5.out hL2.out).mono ?_; rintro e w6 ⟨rfl, hb6⟩; rw [one_e4]))
 go_ret
 have hb := below_step HB5.out hb6
 have hT := HT2.out
 have hbT : Below w.heap.size w w2 := ⟨hT.os.trans hb1.os, hT.tape.trans hb1.tape, hT.output.trans hb1.output, Nat.le_trans hb1.size hT.size, fun k hk => (hT.block k (by have := hb1.size; omega) (by omega) (by omega)).trans (hb1.block k hk)⟩
 exact ⟨rfl, below_step hbT hb⟩
end Go.Proofs.Ytlddccmgamlccaa.Us
