/- The nodes of a set, one after the other: TrailingZeros64, Lowest, All. Conditions: those that each theorem states. -/
import Derived.Test.YtkbjlaknhedekaaDoorAu3
import Derived.RangeFuncFrom
import Derived.RangeFuncNested
import Derived.RangeFuncCalls
import Derived.RangeFuncLeaves
import Derived.Shelf.Abstract
import Derived.WalkKit
import Derived.OwnWalkIn
import Derived.TacticsInMore
import Derived.LoopNIn
import Derived.LoopIn
import Derived.Sort.QuietIn
set_option linter.unusedVariables false
set_option linter.unusedSimpArgs false
/- The nodes of a set, one after the other: TrailingZeros64, Lowest, All. -/
namespace Go.Proofs.YtkbjlaknhedekaaDoor.Sm
open Go Go.Proofs Go.RowKit Go.Shelf Go.Proofs.BitsPlain Go.Proofs.YtkbjlaknhedekaaDoorW.PrintWords Go.Proofs.YtkbjlaknhedekaaDoor.PAuditNames
attribute [local go_sem] Oper.semAt_some

/-- math/bits' table lies in its variable. -/
def Tab (w : World) : Prop := ∀ j, j < 64 → w.cell? ⟨0, j, none⟩ = some (.int .u8 (Lib.deBruijn64tab.getD j 0))

theorem Tab.below {n : Nat} {w w' : World} (hT : Tab w) (hn : 0 < n) (hB : Below n w w') : Tab w' := fun j hj => (hB.cell (p := ⟨0, j, none⟩) hn).trans (hT j hj)
theorem Tab.size {w : World} (hT : Tab w) : 0 < w.heap.size := by
  have h := hT 0 (by decide)
  simp only [World.cell?] at h
  cases hh : w.heap[0]? with
  | none => rw [hh] at h; simp at h
  | some o => exact (Array.getElem?_eq_some_iff.1 hh).1

theorem Tab.go {w w' : World} (hB : Below w.heap.size w w') (hT : Tab w) : Tab w' := hT.below hT.size hB

set_option maxHeartbeats 1000000 in
theorem tz64_core (x k idx : Nat) (w : World) (hx0 : ((x : Int) == 0) = false)
    (key : IntKind.u64.wrap (bits BinOp.and IntKind.u64 (x : Int) (IntKind.u64.wrap (-(x : Int))) * 285870213051353865) / 288230376151711744 = (idx : Int))
    (hi : idx < 64) (hk : k < 64) (hcell : w.cell? ⟨0, idx, none⟩ = some (.int .u8 k)) :
    Calls Tryd.prog 35 #[.int .u64 x] w fun e w' => e = .returned (.int .i64 k) ∧ w' = w := by
  go_enter Tryd.func35, Tryd.ntmps35
  go_wp2_with (simp only [key])
  go_ret
  exact ⟨rfl, rfl⟩

theorem tz64_key (x a : Nat) (hx : x < 18446744073709551616) (hx0 : x ≠ 0) (hlow : x &&& (18446744073709551616 - x) = a) :
    IntKind.u64.wrap (bits BinOp.and IntKind.u64 (x : Int) (IntKind.u64.wrap (-(x : Int))) * 285870213051353865) / 288230376151711744 = ((a * 285870213051353865 % 18446744073709551616 / 288230376151711744 : Nat) : Int) := by
  have e1 : IntKind.u64.wrap (-(x : Int)) = ((18446744073709551616 - x : Nat) : Int) := by rw [IntKind.wrap_u64]; omega
  rw [e1, bits_and_u64_nat x _ hx (by omega), hlow, IntKind.wrap_u64]
  omega

theorem tz64_calls (x : Nat) (hx : x < 18446744073709551616) (hx0 : x ≠ 0) (w : World) (hT : Tab w) :
    Calls Tryd.prog 35 #[.int .u64 x] w fun e w' => e = .returned (.int .i64 (Lib.ctz 64 x)) ∧ w' = w := by
  obtain ⟨hlow, hk⟩ := Lib.lowest_bit 64 x hx0 hx
  obtain ⟨hi, htab⟩ := Lib.deBruijn64_at _ hk
  have hcell := hT _ hi
  rw [htab] at hcell
  exact tz64_core x _ _ w (by simp; omega) (tz64_key x _ hx hx0 hlow) hi hk hcell

set_option maxHeartbeats 1000000 in
theorem lowest_calls (x : Nat) (hx : x < 18446744073709551616) (hx0 : x ≠ 0) (w : World) (hT : Tab w) :
    Calls Tryd.prog 31 #[.int .u64 x] w fun e w' => e = .returned (.int .i64 (Lib.ctz 64 x)) ∧ w' = w := by
  have hx1 : ((x : Int) == 0) = false := by simp; omega
  go_enter Tryd.func31, Tryd.ntmps31
  go_wp2_with (go_at_call 35; refine (tz64_calls x hx hx0 _ hT).mono ?_; rintro e w' ⟨rfl, rfl⟩)
  go_ret
  exact ⟨rfl, rfl⟩

/-- what is left of a set without its least node -/
theorem rest_key (x : Nat) (hx : x < 18446744073709551616) (hx0 : x ≠ 0) :
    bits BinOp.and IntKind.u64 (x : Int) (IntKind.u64.wrap ((x : Int) - 1)) = ((x &&& (x - 1) : Nat) : Int) := by
  have e1 : IntKind.u64.wrap ((x : Int) - 1) = ((x - 1 : Nat) : Int) := by rw [IntKind.wrap_u64]; omega
  rw [e1, bits_and_u64_nat x _ hx (by omega)]

theorem rest_key' (x : Nat) (hx : x < 18446744073709551616) (hx0 : x ≠ 0) :
    bits BinOp.and IntKind.u64 (x : Int) ((x : Int) - 1) = ((x &&& (x - 1) : Nat) : Int) := by
  have e1 : ((x : Int) - 1) = ((x - 1 : Nat) : Int) := by omega
  rw [e1, bits_and_u64_nat x _ hx (by omega)]

def natOf : Value → Nat
  | .int _ i => i.toNat
  | _ => 0

set_option maxRecDepth 100000 in
set_option maxHeartbeats 1000000 in
theorem all1_in (F : Fence) (n : Nat) (h40 : F.fn 30) (h41 : F.fn 31) (hro : F.round = none) (hw41 : ∀ (m : Nat) (args : Array Value) (w : World) (R : Ending → World → Prop), Calls Tryd.prog 31 args w R → CallsIn F m Tryd.prog 31 args w R)
    (hn : 1 ≤ n) (l Bn n₀ s : Nat) (hs : s < 18446744073709551616) (hn₀ : 0 < n₀) (J Jx : List Nat → World → Prop)
    (hY : ∀ pre (x : Nat) W, J pre W → pre ++ [x] <+: lows s → YieldAt F (n - 1) Tryd.prog l #[.int .i64 (x : Int)] W fun e W' =>
      (e = .returned (.bool true) ∧ J (pre ++ [x]) W' ∧ Below n₀ W W') ∨ (e = .returned (.bool false) ∧ Jx (pre ++ [x]) W'))
    (W : World) (hBn : W.cell? ⟨Bn, 0, none⟩ = some (.int .u64 s)) (hT : Tab W) (h0 : J [] W) :
    CallsIn F n Tryd.prog 30 #[.func (.yield l) #[] #[], .pointer (some ⟨Bn, 0, none⟩)] W fun e W' => (∃ v, e = .returned v) ∧
      ((∃ ys, ys = lows s ∧ J ys W') ∨ (∃ pre, pre <+: lows s ∧ Jx pre W')) := by
  refine callsIn_of_wp Tryd.func30 rfl h40 ?_ hro
  simp only [Tryd.ntmps30, List.size_toArray, List.length_cons, List.length_nil, Nat.reduceAdd, Nat.reduceSub, Array.replicate_succ, Array.replicate_zero, List.push_toArray, List.append_toArray, List.nil_append, List.cons_append]
  gi_wp2
  gi_loopw [3] (fun p wr => ∃ (pre : List Nat) (x : Nat), p = .int .u64 x ∧ x < 18446744073709551616 ∧ lows s = pre ++ lows x ∧ Tab wr ∧ J pre wr)
    (fun p wr => natOf p)
  case atStart =>
    exact ⟨[], s, rfl, hs, rfl, hT, h0⟩
  case round =>
    obtain ⟨pre, x, rfl, hx, hl, hTr, hJs⟩ := hrel
    by_cases hx0 : x = 0
    · subst hx0
      gi_wp2
      go_end0
      exact ⟨⟨_, rfl⟩, .inl ⟨pre, by simp [hl, lows_zero], hJs⟩⟩
    · have hx1 : ((x : Int) == 0) = false := by simp; omega
      have hx2 : ((x : Int) != 0) = true := by simp; omega
      obtain ⟨hstep, hlt, hc64⟩ := lows_step x hx hx0
      obtain ⟨fn, tmps, assign, body, hy, hR⟩ := hY pre (Lib.ctz 64 x) wr hJs ⟨lows (x &&& (x - 1)), by rw [hl, hstep]; simp⟩
      gi_wp2_with (gi_at_call 31; refine (hw41 _ _ _ _ (lowest_calls x hx hx0 _ hTr)).mono ?_; rintro e w' ⟨rfl, rfl⟩)
      refine hR.mono ?_
      rintro e W3 (⟨rfl, hJ3, hk3⟩ | ⟨rfl, hJx3⟩)
      · gi_wp2
        go_roundw
        case rel => exact ⟨pre ++ [Lib.ctz 64 x], x &&& (x - 1), by rw [rest_key' x hx hx0], by omega, by rw [hl, hstep]; simp, hTr.below hn₀ hk3, hJ3⟩
        case measure => rw [rest_key' x hx hx0]; simp only [natOf]; omega
      · gi_wp2
        refine bodyPost_ret (results_none rfl _ _ _) rfl ?_
        exact ⟨⟨_, rfl⟩, .inr ⟨pre ++ [Lib.ctz 64 x], ⟨lows (x &&& (x - 1)), by rw [hl, hstep]; simp⟩, hJx3⟩⟩


set_option maxHeartbeats 1000000 in
theorem all_calls (s : Int) (w : World) :
    Calls Tryd.prog 20 #[.int .u64 s] w fun e w' => e = .returned (.func (.func 30) #[] #[.pointer (some ⟨w.heap.size, 0, none⟩)]) ∧ w' = w.alloc (.cells #[.int .u64 s] 26) := by
  go_enter Tryd.func20, Tryd.ntmps20
  go_wp2
  go_ret
  exact ⟨rfl, rfl⟩

theorem of_calls {m : Nat} {g : FuncId} {args : Array Value} {w : World} {R : Ending → World → Prop} (h : Calls Tryd.prog g args w R) : CallsIn Fence.wide m Tryd.prog g args w R := callsIn_wide.2 h

end Go.Proofs.YtkbjlaknhedekaaDoor.Sm
