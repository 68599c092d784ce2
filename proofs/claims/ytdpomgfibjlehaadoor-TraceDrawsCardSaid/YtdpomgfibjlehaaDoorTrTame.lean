/- A part of the proofs over trace (TrTame): contracts of the program's functions and plain laws. Conditions: those that each theorem states. -/
import Derived.Test.YtdpomgfibjlehaaDoorTrFine
set_option linter.unusedVariables false
set_option linter.unusedSimpArgs false
/- berthinglaw32.Tame: events whose numbers may be. -/
namespace Go.Proofs.YtdpomgfibjlehaaDoor.Tr
open Go Go.Proofs Go.RowKit Go.Lib Go.Proofs.YtdpomgfibjlehaaDoorW.PrintWords Go.Proofs.YtdpomgfibjlehaaDoorW.PrintLast Go.Proofs.YtdpomgfibjlehaaDoorW.PrintMore Go.Proofs.YtdpomgfibjlehaaDoor.PTr

def msk (v m : Int) : Int := Go.bits .and .i64 v m
theorem msk_range (v : Int) (m : Nat) (hm : m < 9223372036854775808) : 0 ≤ msk v (m : Int) ∧ msk v (m : Int) ≤ (m : Int) := by
  unfold msk bits
  have h1 : (BitVec.ofInt IntKind.i64.bits (m : Int)).toNat = m := by
    show (BitVec.ofInt 64 (m : Int)).toNat = m
    rw [BitVec.ofInt_natCast, BitVec.toNat_ofNat]
    exact Nat.mod_eq_of_lt (by omega)
  dsimp only
  rw [BitVec.toNat_and, h1]
  have h2 := Nat.and_le_right (n := (BitVec.ofInt IntKind.i64.bits v).toNat) (m := m)
  rw [IntKind.wrap_i64]
  omega
def tameE (a : Int) (x : S46) : S46 := ⟨1 + msk x.f0 15, msk x.f1 1, 1 + msk x.f2 7, x.f3, a, (msk x.f6 7 % 7 != 0), msk x.f6 7 % 7⟩
def tameG : Int → List S46 → List S46
  | _, [] => []
  | a, x :: r => tameE (a + msk x.f4 7) x :: tameG (a + msk x.f4 7) r
def tameL (l : List S46) (most : Int) : List S46 := tameG 0 (l.take most.toNat)

set_option maxRecDepth 100000 in
set_option maxHeartbeats 8000000 in
theorem tame_calls (A : Option Addr) (c : Nat) (l : List S46) (most : Nat) (w : World) (hl : l.length < 9223372036854775808) (hm : most ≤ 65536) (hc : l.length ≤ c) (hC : Kd.C k46 w A l.length l) :
    Calls Tryd.prog 13 #[.slice A l.length c, .int .i64 (most : Int)] w fun e w' => ∃ v, e = .returned v ∧ Kd.R k46 46 w' w.heap.size (fun _ => True) v (tameL l (most : Int)) ∧ Below w.heap.size w w' := by
  have HC := Aside0.mk hC
  obtain ⟨R, hR⟩ : ∃ R, tameL l (most : Int) = R := ⟨_, rfl⟩
  have HR := Aside0.mk hR
  rw [hR]
  clear hC hR
  go_enter Tryd.func13, Tryd.ntmps13
  go_wp2
  go_loopw [5, 6, 7] (fun v5 v6 v7 wr => ∃ (i : Nat) (a : Int) (out : List S46), v6 = .int .i64 a ∧ v7 = .int .i64 (i : Int) ∧ i ≤ l.length ∧ i ≤ most ∧ 0 ≤ a ∧ a ≤ 7 * (i : Int) ∧ out.length = i ∧ out ++ tameG a ((l.take most).drop i) = R ∧ Kd.R k46 46 wr w.heap.size (fun _ => True) v5 out ∧ Below w.heap.size w wr) (fun v5 v6 v7 wr => l.length - natV v7)
  case atStart => exact ⟨0, 0, [], rfl, rfl, by omega, by omega, by omega, by omega, rfl, by have := HR.out; unfold tameL at this; rw [Int.toNat_natCast] at this; simpa using this, Kd.R_nil _ _ _ _ _, Below.refl _ _⟩
  case round =>
    obtain ⟨i, a, out, rfl, rfl, hi, him, ha0, ha7, hol, hg, hRo, hB⟩ := hrel
    have HG := Aside0.mk hg
    have HRo := Aside0.mk hRo
    have HB := Aside0.mk hB
    clear hg hRo hB
    by_cases hlt : i < l.length
    · have e1 : decide ((i : Int) < (l.length : Int)) = true := decide_eq_true (by omega)
      by_cases hmt : i < most
      · have e2 : decide ((i : Int) < (most : Int)) = true := decide_eq_true (by omega)
        obtain ⟨ad, had, q0, q1, q2, q3, q4, q5, q6⟩ := at_T46 (Kd.C_below HC.out HB.out) (i : Int) (by omega) (by omega)
        subst had
        rw [rd46 l i hlt] at q0 q1 q2 q3 q4 q5 q6
        rw [Int.toNat_natCast] at q0 q1 q2 q3 q4 q5 q6
        have hg := HG.out
        rw [List.drop_eq_getElem_cons (by rw [List.length_take]; omega), List.getElem_take, tameG] at hg
        obtain ⟨x, hx⟩ : ∃ x, l[i] = x := ⟨_, rfl⟩
        rw [hx] at q0 q1 q2 q3 q4 q5 q6 hg
        have r0 := msk_range x.f0 15 (by omega)
        have r1 := msk_range x.f1 1 (by omega)
        have r2 := msk_range x.f2 7 (by omega)
        have r4 := msk_range x.f4 7 (by omega)
        have r6 := msk_range x.f6 7 (by omega)
        unfold tameE at hg
        obtain ⟨m0, h0⟩ : ∃ m, msk x.f0 15 = m := ⟨_, rfl⟩
        obtain ⟨m1, h1⟩ : ∃ m, msk x.f1 1 = m := ⟨_, rfl⟩
        obtain ⟨m2, h2⟩ : ∃ m, msk x.f2 7 = m := ⟨_, rfl⟩
        obtain ⟨m4, h4⟩ : ∃ m, msk x.f4 7 = m := ⟨_, rfl⟩
        obtain ⟨m6, h6⟩ : ∃ m, msk x.f6 7 = m := ⟨_, rfl⟩
        rw [h0, h1, h2, h4, h6] at hg
        have r0' : 0 ≤ m0 ∧ m0 ≤ 15 := by rw [← h0]; exact r0
        have r1' : 0 ≤ m1 ∧ m1 ≤ 1 := by rw [← h1]; exact r1
        have r2' : 0 ≤ m2 ∧ m2 ≤ 7 := by rw [← h2]; exact r2
        have r4' : 0 ≤ m4 ∧ m4 ≤ 7 := by rw [← h4]; exact r4
        have r6' : 0 ≤ m6 ∧ m6 ≤ 7 := by rw [← h6]; exact r6
        obtain ⟨z, hz⟩ : ∃ z, m6 % 7 = z := ⟨_, rfl⟩
        have hz2 : Int.tmod m6 7 = z := by rw [Int.tmod_eq_emod_of_nonneg r6'.1]; exact hz
        rw [hz] at hg
        have HG2 := Aside0.mk hg
        have g0 : Go.bits .and .i64 x.f0 15 = m0 := h0
        have g1 : Go.bits .and .i64 x.f1 1 = m1 := h1
        have g2 : Go.bits .and .i64 x.f2 7 = m2 := h2
        have g4 : Go.bits .and .i64 x.f4 7 = m4 := h4
        have g6 : Go.bits .and .i64 x.f6 7 = m6 := h6
        have s0 : IntKind.i64.wrap (1 + m0) = 1 + m0 := by rw [IntKind.wrap_i64]; omega
        have s2 : IntKind.i64.wrap (1 + m2) = 1 + m2 := by rw [IntKind.wrap_i64]; omega
        have s4 : IntKind.i64.wrap (a + m4) = a + m4 := by rw [IntKind.wrap_i64]; omega
        clear hg hx r0 r1 r2 r4 r6 h0 h1 h2 h4 h6
        have hbw : Below w.heap.size w (wr.alloc (.cells #[.int .i64 (1 + m0), .int .i64 m1, .int .i64 (1 + m2), .int .u64 x.f3, .int .i64 (a + m4), .bool (z != 0), .int .i64 z] 46)) := HB.out.alloc HB.out.size _
        have HBW := Aside0.mk hbw
        have HRW := Aside0.mk (Kd.R_alloc HRo.out (.cells #[.int .i64 (1 + m0), .int .i64 m1, .int .i64 (1 + m2), .int .u64 x.f3, .int .i64 (a + m4), .bool (z != 0), .int .i64 z] 46))
        clear hbw
        go_wp2_with ((with_reducible refine gate_builtin (b := .append) (xs := #[.tmp 54, .tmp 56]) rfl ?_); at_builtin
                     refine Kd.R_append k46 (w0 := w) w.heap.size rfl (.tmp 54) (.tmp 56) 22 46 (.agg #[(.int .i64 0), (.int .i64 0), (.int .i64 0), (.int .u64 0), (.int .i64 0), (.bool false), (.int .i64 0)]) 56 rfl Tryd.underlying22 info46 rfl (by decide) (by omega) u5 out (⟨1 + m0, m1, 1 + m2, x.f3, a + m4, (z != 0), z⟩ : S46) [.int .i64 (1 + m0), .int .i64 m1, .int .i64 (1 + m2), .int .u64 x.f3, .int .i64 (a + m4), .bool (z != 0), .int .i64 z] (fun _ => True) (fun _ => False) rfl (by first | (go_simp; done) | (go_simp; rfl)) ?aP (fun _ hk => hk.elim) ?aF ?aO ?aB ?aS ?aL ?_
                     (case aP => exact k46_mkM _ _ _ (⟨1 + m0, m1, 1 + m2, x.f3, a + m4, (z != 0), z⟩ : S46))
                     (case aF => exact fun k hk => trivial)
                     (case aO => exact HRW.out)
                     (case aB => exact HBW.out)
                     (case aS => exact HBW.out.size)
                     (case aL => omega)
                     intro v6 w10 hR10 hB10 hg10 hat10)
        go_roundw
        case rel => exact ⟨i + 1, a + m4, out ++ [(⟨1 + m0, m1, 1 + m2, x.f3, a + m4, (z != 0), z⟩ : S46)], rfl, by go_num, by omega, by omega, by omega, by omega, by rw [List.length_append, List.length_singleton]; omega, by rw [List.append_assoc]; exact HG2.out, hR10, hB10⟩
        case measure => simp [natV]; omega
      · have e2 : decide ((i : Int) < (most : Int)) = false := decide_eq_false (by omega)
        have hg := HG.out
        rw [List.drop_of_length_le (by rw [List.length_take]; omega), tameG, List.append_nil] at hg
        subst hg
        go_wp2
        go_ret
        exact ⟨_, rfl, HRo.out, HB.out⟩
    · have e1 : decide ((i : Int) < (l.length : Int)) = false := decide_eq_false (by omega)
      have hg := HG.out
      rw [List.drop_of_length_le (by rw [List.length_take]; omega), tameG, List.append_nil] at hg
      subst hg
      go_wp2
      go_ret
      exact ⟨_, rfl, HRo.out, HB.out⟩
end Go.Proofs.YtdpomgfibjlehaaDoor.Tr

set_option linter.unusedVariables false
set_option linter.unusedSimpArgs false
namespace Go.Proofs.YtdpomgfibjlehaaDoor.PTr
open Go Go.Proofs Go.RowKit Go.Proofs.YtdpomgfibjlehaaDoorW.PrintWords Go.Proofs.YtdpomgfibjlehaaDoorW.PrintLast Go.Proofs.YtdpomgfibjlehaaDoorW.PrintMore
/-- berthinglaw32.Tame, for the print -/
def berthinglaw32_Tame.f (l : List S46) (most : Int) : Option (List S46) := if l.length < 9223372036854775808 ∧ 0 ≤ most ∧ most ≤ 65536 then some (Tr.tameL l most) else none
theorem berthinglaw32_Tame.calls (A0 : Option Addr) (c0 : Nat) (l0 : List S46) (a1 : Int) (r : List S46) (w : World) (hr0 : Kd.C k46 w A0 l0.length l0) (hc0 : l0.length ≤ c0) (h : berthinglaw32_Tame.f l0 a1 = some r) :
    Calls Tryd.prog 13 #[.slice A0 l0.length c0, .int .i64 a1] w fun e w' => ∃ v0_ : Value, e = .returned (v0_) ∧ Kd.R k46 46 w' w.heap.size (fun _ => True) v0_ r ∧ Below w.heap.size w w' := by
  unfold berthinglaw32_Tame.f at h
  split at h
  · rename_i hn
    obtain ⟨hl, h0, h1⟩ := hn
    obtain ⟨m, rfl⟩ : ∃ m : Nat, a1 = (m : Int) := ⟨a1.toNat, by omega⟩
    obtain rfl := Option.some.inj h
    exact Tr.tame_calls A0 c0 l0 m w hl (by omega) hc0 hr0
  · cases h
end Go.Proofs.YtdpomgfibjlehaaDoor.PTr
