/- A part of the proofs over trace (TrFine): contracts of the program's functions and plain laws. Conditions: those that each theorem states. -/
import Derived.Test.YtdpomgfibjlehaaDoorPTrx3
import Derived.Deep.RegionHeld3
set_option linter.unusedVariables false
set_option linter.unusedSimpArgs false
/- trace.fine: which events may be; their times rise. -/
namespace Go.Proofs.YtdpomgfibjlehaaDoor.Tr
open Go Go.Proofs Go.RowKit Go.Lib Go.Proofs.YtdpomgfibjlehaaDoorW.PrintWords Go.Proofs.YtdpomgfibjlehaaDoorW.PrintLast Go.Proofs.YtdpomgfibjlehaaDoorW.PrintMore Go.Proofs.YtdpomgfibjlehaaDoor.PTr

theorem ret_int {k : IntKind} {a b : Int} (h : a = b) : Ending.returned (.int k a) = .returned (.int k b) := by rw [h]
theorem below_cell1 {w w1 : World} {a : Addr} {v : Value} (h : Below w.heap.size w w1) (hc : w.cell? a = some v) : w1.cell? a = some v := (h.cell (World.block_lt_of_cell? w a hc)).trans hc
abbrev evV (x : S46) : Value := .agg #[.int .i64 x.f0, .int .i64 x.f1, .int .i64 x.f2, .int .u64 x.f3, .int .i64 x.f4, .bool x.f5, .int .i64 x.f6]
/-- an event may be -/
def rightB (x : S46) : Bool := decide (1 ≤ x.f0 ∧ x.f0 ≤ 1073741824 ∧ 0 ≤ x.f1 ∧ x.f1 ≤ 3 ∧ 1 ≤ x.f2 ∧ x.f2 ≤ 9 ∧ 0 ≤ x.f4 ∧ x.f4 < 1099511627776 ∧ 0 ≤ x.f6 ∧ x.f6 ≤ 6 ∧ x.f5 = (x.f6 != 0))
theorem within_f (v a b : Int) : trace_within.f v a b = some (decide (a ≤ v ∧ v ≤ b)) := by
  unfold trace_within.f
  by_cases h : v ≥ a
  · rw [if_pos h]; simp; intro _; exact h
  · rw [if_neg h]; simp; omega
theorem right_f (x : S46) : trace_right.f x.f0 x.f1 x.f2 x.f3 x.f4 x.f5 x.f6 = some (rightB x) := by
  unfold trace_right.f rightB
  simp only [within_f, Option.bind_some, decide_eq_true_eq]
  split
  · split
    · split
      · split
        · split
          · split
            · congr 1
              rw [Bool.eq_iff_iff]; simp; constructor
              · intro h; exact ⟨by omega, by omega, by omega, by omega, by omega, by omega, by omega, by omega, by omega, by omega, h⟩
              · intro h; exact h.2.2.2.2.2.2.2.2.2.2
            · congr 1; symm; simp; omega
          · congr 1; symm; simp; omega
        · congr 1; symm; simp; omega
      · congr 1; symm; simp; omega
    · congr 1; symm; simp; omega
  · congr 1; symm; simp; omega

set_option maxRecDepth 100000 in
set_option maxHeartbeats 1000000 in
theorem fine1_calls (x : S46) (w : World) : Calls Tryd.prog 51 #[evV x] w fun e w' => e = .returned (.bool (!rightB x)) ∧ Below w.heap.size w w' := by
  have hb0 : Below w.heap.size w (w.alloc (.cells #[.int .i64 x.f0, .int .i64 x.f1, .int .i64 x.f2, .int .u64 x.f3, .int .i64 x.f4, .bool x.f5, .int .i64 x.f6] 46)) := (Below.refl _ w).alloc (Nat.le_refl _) _
  have H := Aside0.mk (right_f x)
  go_enter Tryd.func51, Tryd.ntmps51
  go_wp2_with (go_at_call 22; refine (trace_right.calls _ _ _ _ _ _ _ _ _ H.out).mono ?_; rintro e w1 ⟨rfl, hb1⟩)
  go_ret
  exact ⟨rfl, below_step hb0 hb1⟩

/-- the first one of which something is so; -1: none -/
def idxI (p : S46 → Bool) (l : List S46) : Int := if l.any p then ((l.findIdx p : Nat) : Int) else -1
theorem idxI_at (p : S46 → Bool) (l : List S46) (i : Nat) (hi : i < l.length) (h : ∀ j (hj : j < l.length), j < i → p l[j] = false) (hp : p l[i] = true) : idxI p l = i := by
  unfold idxI
  rw [if_pos (List.any_eq_true.2 ⟨_, List.getElem_mem hi, hp⟩)]
  rw [show l.findIdx p = i from (List.findIdx_eq hi).2 ⟨hp, fun j hj => h j (by omega) hj⟩]
theorem idxI_none (p : S46 → Bool) (l : List S46) (h : ∀ j (hj : j < l.length), p l[j] = false) : idxI p l = -1 := by
  unfold idxI
  rw [if_neg]
  intro ha
  obtain ⟨x, hx, hp⟩ := List.any_eq_true.1 ha
  obtain ⟨j, hj, rfl⟩ := List.getElem_of_mem hx
  rw [h j hj] at hp; cases hp

def natV : Value → Nat
  | .int _ i => i.toNat
  | _ => 0
theorem rd46 (l : List S46) (i : Nat) (hi : i < l.length) : rd_T46 l (i : Int) = l[i] := by
  unfold rd_T46; rw [Int.toNat_natCast, List.getD_eq_getElem?_getD, List.getElem?_eq_getElem hi]; rfl

set_option maxRecDepth 100000 in
set_option maxHeartbeats 4000000 in
theorem index51_calls (A : Option Addr) (c : Nat) (l : List S46) (w : World) (hC : Kd.C k46 w A l.length l) (hc : l.length ≤ c) (hn : l.length < 4611686018427387904) :
    Calls Tryd.prog 57 #[.slice A l.length c, .func (.func 51) #[] #[]] w fun e w' => e = .returned (.int .i64 (idxI (fun x => !rightB x) l)) ∧ Below w.heap.size w w' := by
  go_enter Tryd.func57, Tryd.ntmps57
  go_wp2
  go_loopw [8] (fun v8 wr => ∃ i : Nat, v8 = .int .i64 (i : Int) ∧ i ≤ l.length ∧ (∀ j (hj : j < l.length), j < i → (!rightB l[j]) = false) ∧ Below w.heap.size w wr) (fun v8 wr => l.length - natV v8)
  case atStart => exact ⟨0, rfl, Nat.zero_le _, fun j _ h => by omega, Below.refl _ w⟩
  case round =>
    obtain ⟨i, rfl, hi, hall, hB⟩ := hrel
    by_cases hlt : i < l.length
    · have e1 : decide ((i : Int) < (l.length : Int)) = true := by simp; omega
      obtain ⟨ad, rfl, q0, q1, q2, q3, q4, q5, q6⟩ := at_T46 (Kd.C_below hC hB) (i : Int) (by omega) (by omega)
      rw [rd46 l i hlt] at q0 q1 q2 q3 q4 q5 q6
      rw [Int.toNat_natCast] at q0 q1 q2 q3 q4 q5 q6
      have HA := Aside0.mk hall
      clear hall
      obtain ⟨b, hb⟩ : ∃ b, (!rightB l[i]) = b := ⟨_, rfl⟩
      have HC := Aside0.mk (fun W => fine1_calls l[i] W)
      have HB := Aside0.mk hb
      cases b with
      | true =>
        clear hb
        go_wp2_with (go_at_call 51; refine (HC.out _).mono ?_; rintro e w1 ⟨rfl, hb1⟩; rw [HB.out])
        go_ret
        exact ⟨ret_int (idxI_at _ l i hlt HA.out HB.out).symm, below_step hB hb1⟩
      | false =>
        clear hb
        go_wp2_with (go_at_call 51; refine (HC.out _).mono ?_; rintro e w1 ⟨rfl, hb1⟩; rw [HB.out])
        go_roundw
        case rel => exact ⟨i + 1, by go_num, by omega, fun j hj hji => by
          rcases Nat.lt_or_ge j i with h | h
          · exact HA.out j hj h
          · obtain rfl : j = i := by omega
            exact HB.out, below_step hB hb1⟩
        case measure => simp [natV]; omega
    · obtain rfl : i = l.length := by omega
      have e1 : decide ((l.length : Int) < (l.length : Int)) = false := by simp
      have HA := Aside0.mk hall
      clear hall
      go_wp2
      go_ret
      exact ⟨ret_int (idxI_none _ l (fun j hj => HA.out j hj hj)).symm, hB⟩
end Go.Proofs.YtdpomgfibjlehaaDoor.Tr

set_option linter.unusedVariables false
set_option linter.unusedSimpArgs false
namespace Go.Proofs.YtdpomgfibjlehaaDoor.Tr
open Go Go.Proofs Go.RowKit Go.Lib Go.Proofs.YtdpomgfibjlehaaDoorW.PrintWords Go.Proofs.YtdpomgfibjlehaaDoorW.PrintLast Go.Proofs.YtdpomgfibjlehaaDoorW.PrintMore Go.Proofs.YtdpomgfibjlehaaDoor.PTr

set_option maxRecDepth 100000 in
set_option maxHeartbeats 1000000 in
theorem contains_calls (A : Option Addr) (c : Nat) (l : List S46) (w : World) (hC : Kd.C k46 w A l.length l) (hc : l.length ≤ c) (hn : l.length < 4611686018427387904) :
    Calls Tryd.prog 50 #[.slice A l.length c, .func (.func 51) #[] #[]] w fun e w' => e = .returned (.bool (!l.all rightB)) ∧ Below w.heap.size w w' := by
  have H := Aside0.mk (index51_calls A c l w hC hc hn)
  obtain ⟨r, hr⟩ : ∃ r, idxI (fun x => !rightB x) l = r := ⟨_, rfl⟩
  have hd : (!l.all rightB) = decide (r ≥ 0) := by
    rw [← hr, idxI, List.not_all_eq_any_not]
    split
    · rename_i h; rw [h]; simp
    · rename_i h; simp at h; simp; exact h
  rw [hd]
  have HR := Aside0.mk hr
  clear hd hr hC hc
  go_enter Tryd.func50, Tryd.ntmps50
  go_wp2_with (go_at_call 57; refine H.out.mono ?_; rintro e w1 ⟨rfl, hb1⟩; rw [HR.out])
  go_ret
  exact ⟨rfl, hb1⟩

def cm (a b : Int) : Int := if a < b then -1 else if b < a then 1 else 0
set_option maxRecDepth 100000 in
set_option maxHeartbeats 1000000 in
theorem fine2_calls (x y : S46) (w : World) (hx : 0 ≤ x.f4 ∧ x.f4 < 1099511627776) (hy : 0 ≤ y.f4 ∧ y.f4 < 1099511627776) :
    Calls Tryd.prog 53 #[evV x, evV y] w fun e w' => e = .returned (.int .i64 (cm x.f4 y.f4)) ∧ Below w.heap.size w w' := by
  obtain ⟨i, hi⟩ : ∃ i : Int, (if 1 < x.f4 - y.f4 then 1 else x.f4 - y.f4) = i := ⟨_, rfl⟩
  obtain ⟨j, hj⟩ : ∃ j : Int, (if (-1) < i then i else -1) = j := ⟨_, rfl⟩
  have e : cm x.f4 y.f4 = j := by rw [← hj, ← hi]; unfold cm; split <;> split <;> split <;> omega
  rw [e]
  clear e
  go_enter Tryd.func53, Tryd.ntmps53
  go_wp2
  go_ret
  exact ⟨rfl, ((Below.refl _ w).alloc (Nat.le_refl _) _).alloc (by simp) _⟩

/-- times rise -/
def risesB : List S46 → Bool
  | [] => true
  | [_] => true
  | x :: y :: r => decide (x.f4 ≤ y.f4) && risesB (y :: r)
theorem rises_at : ∀ (l : List S46), risesB l = true ↔ ∀ i (h : i + 1 < l.length), l[i].f4 ≤ l[i + 1].f4
  | [] => by simp [risesB]
  | [_] => by simp [risesB]
  | x :: y :: r => by
    rw [risesB, Bool.and_eq_true, decide_eq_true_eq, rises_at (y :: r)]
    constructor
    · rintro ⟨h1, h2⟩ i h
      cases i with
      | zero => exact h1
      | succ i => exact h2 i (by simpa using h)
    · intro h
      exact ⟨h 0 (by simp), fun i hi => h (i + 1) (by simpa using hi)⟩

set_option maxRecDepth 100000 in
set_option maxHeartbeats 8000000 in
theorem sorted_calls (A : Option Addr) (c : Nat) (l : List S46) (w : World) (hC : Kd.C k46 w A l.length l) (hc : l.length ≤ c) (hn : l.length < 4611686018427387904) (hl : ∀ x ∈ l, 0 ≤ x.f4 ∧ x.f4 < 1099511627776) :
    Calls Tryd.prog 52 #[.slice A l.length c, .func (.func 53) #[] #[]] w fun e w' => e = .returned (.bool (risesB l)) ∧ Below w.heap.size w w' := by
  go_enter Tryd.func52, Tryd.ntmps52
  go_wp2
  go_loopw [5] (fun v5 wr => ∃ i : Int, v5 = .int .i64 i ∧ -1 ≤ i ∧ i < l.length ∧ (∀ j (hj : j + 1 < l.length), i < (j : Int) + 1 → l[j].f4 ≤ l[j + 1].f4) ∧ Below w.heap.size w wr) (fun v5 wr => natV v5)
  case atStart => exact ⟨_, rfl, by omega, by omega, fun j hj h => by omega, Below.refl _ w⟩
  case round =>
    obtain ⟨i, rfl, hi1, hi, hall, hB⟩ := hrel
    have HA := Aside0.mk hall
    clear hall
    by_cases hlt : 0 < i
    · obtain ⟨K, rfl⟩ : ∃ K : Nat, i = (K : Int) := ⟨i.toNat, by omega⟩
      obtain ⟨k, hkK⟩ : ∃ k : Nat, K = k + 1 := ⟨K - 1, by omega⟩
      have hk1 : K < l.length := by omega
      have hk2 : k < l.length := by omega
      have b1 : (0 : Int) ≤ (k : Int) := by omega
      have b2 : (k : Int) < (l.length : Int) := by omega
      have b3 : (K : Int) < (l.length : Int) := by omega
      have hw : IntKind.i64.wrap ((K : Int) - 1) = (k : Int) := by rw [IntKind.wrap_i64]; omega
      have e1 : decide ((K : Int) > 0) = true := decide_eq_true (by omega)
      obtain ⟨ad, had, q0, q1, q2, q3, q4, q5, q6⟩ := at_T46 (Kd.C_below hC hB) (K : Int) (by omega) (by omega)
      subst had
      obtain ⟨ad', had', p0, p1, p2, p3, p4, p5, p6⟩ := at_T46 (Kd.C_below hC hB) (k : Int) (by omega) (by omega)
      obtain rfl : ad = ad' := by injection had'
      rw [rd46 l K hk1] at q0 q1 q2 q3 q4 q5 q6
      rw [rd46 l k hk2] at p0 p1 p2 p3 p4 p5 p6
      rw [Int.toNat_natCast] at q0 q1 q2 q3 q4 q5 q6 p0 p1 p2 p3 p4 p5 p6
      have HC := Aside0.mk (fun W => fine2_calls l[K] l[k] W (hl _ (List.getElem_mem hk1)) (hl _ (List.getElem_mem hk2)))
      obtain ⟨x, hx⟩ : ∃ x, l[K] = x := ⟨_, rfl⟩
      obtain ⟨y, hy⟩ : ∃ y, l[k] = y := ⟨_, rfl⟩
      rw [hx] at q0 q1 q2 q3 q4 q5 q6 HC
      rw [hy] at p0 p1 p2 p3 p4 p5 p6 HC
      have HX := Aside0.mk hx
      have HY := Aside0.mk hy
      have HK := Aside0.mk hkK
      clear hx hy had' hkK
      have e2 : decide (cm x.f4 y.f4 < 0) = decide (x.f4 < y.f4) := by unfold cm; split <;> simp <;> (try split) <;> omega
      obtain ⟨b, hb⟩ : ∃ b, decide (x.f4 < y.f4) = b := ⟨_, rfl⟩
      rw [hb] at e2
      have HB := Aside0.mk hb
      clear hb
      cases b with
      | true =>
        go_wp2
        go_region_held3 (fun w' => w'.cell? (ad.add (K * 7)) = some (.int .i64 x.f0) ∧ w'.cell? ⟨(ad.add (K * 7)).block, (ad.add (K * 7)).off + 1, none⟩ = some (.int .i64 x.f1) ∧ w'.cell? ⟨(ad.add (K * 7)).block, (ad.add (K * 7)).off + 2, none⟩ = some (.int .i64 x.f2) ∧ w'.cell? ⟨(ad.add (K * 7)).block, (ad.add (K * 7)).off + 3, none⟩ = some (.int .u64 x.f3) ∧ w'.cell? ⟨(ad.add (K * 7)).block, (ad.add (K * 7)).off + 4, none⟩ = some (.int .i64 x.f4) ∧ w'.cell? ⟨(ad.add (K * 7)).block, (ad.add (K * 7)).off + 5, none⟩ = some (.bool x.f5) ∧ w'.cell? ⟨(ad.add (K * 7)).block, (ad.add (K * 7)).off + 6, none⟩ = some (.int .i64 x.f6) ∧ w'.cell? (ad.add (k * 7)) = some (.int .i64 y.f0) ∧ w'.cell? ⟨(ad.add (k * 7)).block, (ad.add (k * 7)).off + 1, none⟩ = some (.int .i64 y.f1) ∧ w'.cell? ⟨(ad.add (k * 7)).block, (ad.add (k * 7)).off + 2, none⟩ = some (.int .i64 y.f2) ∧ w'.cell? ⟨(ad.add (k * 7)).block, (ad.add (k * 7)).off + 3, none⟩ = some (.int .u64 y.f3) ∧ w'.cell? ⟨(ad.add (k * 7)).block, (ad.add (k * 7)).off + 4, none⟩ = some (.int .i64 y.f4) ∧ w'.cell? ⟨(ad.add (k * 7)).block, (ad.add (k * 7)).off + 5, none⟩ = some (.bool y.f5) ∧ w'.cell? ⟨(ad.add (k * 7)).block, (ad.add (k * 7)).off + 6, none⟩ = some (.int .i64 y.f6)) (go_keep)
          (first | (go_at_call 53; refine (HC.out _).mono ?_; rintro ev w1 ⟨rfl, hb1⟩; have u0 := below_cell1 hb1 q0; have u1 := below_cell1 hb1 q1; have u2 := below_cell1 hb1 q2; have u3 := below_cell1 hb1 q3; have u4 := below_cell1 hb1 q4; have u5 := below_cell1 hb1 q5; have u6 := below_cell1 hb1 q6; have v0 := below_cell1 hb1 p0; have v1 := below_cell1 hb1 p1; have v2 := below_cell1 hb1 p2; have v3 := below_cell1 hb1 p3; have v4 := below_cell1 hb1 p4; have v5 := below_cell1 hb1 p5; have v6 := below_cell1 hb1 p6))
        go_wp2
        go_ret
        refine ⟨?_, below_step (below_drew1 hB) hb1⟩
        have hf : risesB l = false := by
          rw [Bool.eq_false_iff]
          intro h
          have h1 := HK.out
          subst h1
          have h2 := (rises_at l).1 h k hk1
          have h3 := HX.out
          have h4 := HY.out
          have h5 := of_decide_eq_true HB.out
          rw [h3, h4] at h2
          omega
        rw [hf]; rfl
      | false =>
        go_wp2
        go_region_held3 (fun w' => w'.cell? (ad.add (K * 7)) = some (.int .i64 x.f0) ∧ w'.cell? ⟨(ad.add (K * 7)).block, (ad.add (K * 7)).off + 1, none⟩ = some (.int .i64 x.f1) ∧ w'.cell? ⟨(ad.add (K * 7)).block, (ad.add (K * 7)).off + 2, none⟩ = some (.int .i64 x.f2) ∧ w'.cell? ⟨(ad.add (K * 7)).block, (ad.add (K * 7)).off + 3, none⟩ = some (.int .u64 x.f3) ∧ w'.cell? ⟨(ad.add (K * 7)).block, (ad.add (K * 7)).off + 4, none⟩ = some (.int .i64 x.f4) ∧ w'.cell? ⟨(ad.add (K * 7)).block, (ad.add (K * 7)).off + 5, none⟩ = some (.bool x.f5) ∧ w'.cell? ⟨(ad.add (K * 7)).block, (ad.add (K * 7)).off + 6, none⟩ = some (.int .i64 x.f6) ∧ w'.cell? (ad.add (k * 7)) = some (.int .i64 y.f0) ∧ w'.cell? ⟨(ad.add (k * 7)).block, (ad.add (k * 7)).off + 1, none⟩ = some (.int .i64 y.f1) ∧ w'.cell? ⟨(ad.add (k * 7)).block, (ad.add (k * 7)).off + 2, none⟩ = some (.int .i64 y.f2) ∧ w'.cell? ⟨(ad.add (k * 7)).block, (ad.add (k * 7)).off + 3, none⟩ = some (.int .u64 y.f3) ∧ w'.cell? ⟨(ad.add (k * 7)).block, (ad.add (k * 7)).off + 4, none⟩ = some (.int .i64 y.f4) ∧ w'.cell? ⟨(ad.add (k * 7)).block, (ad.add (k * 7)).off + 5, none⟩ = some (.bool y.f5) ∧ w'.cell? ⟨(ad.add (k * 7)).block, (ad.add (k * 7)).off + 6, none⟩ = some (.int .i64 y.f6)) (go_keep)
          (first | (go_at_call 53; refine (HC.out _).mono ?_; rintro ev w1 ⟨rfl, hb1⟩; have u0 := below_cell1 hb1 q0; have u1 := below_cell1 hb1 q1; have u2 := below_cell1 hb1 q2; have u3 := below_cell1 hb1 q3; have u4 := below_cell1 hb1 q4; have u5 := below_cell1 hb1 q5; have u6 := below_cell1 hb1 q6; have v0 := below_cell1 hb1 p0; have v1 := below_cell1 hb1 p1; have v2 := below_cell1 hb1 p2; have v3 := below_cell1 hb1 p3; have v4 := below_cell1 hb1 p4; have v5 := below_cell1 hb1 p5; have v6 := below_cell1 hb1 p6))
        go_wp2
        go_roundw
        case rel => exact ⟨(k : Int), rfl, by omega, b2, fun j hj hji => by
          rcases Nat.lt_or_ge K (j + 1) with h | h
          · exact HA.out j hj (by omega)
          · have h1 := HK.out
            obtain rfl : j = k := by omega
            have h2 := of_decide_eq_false HB.out
            have h3 := HX.out
            have h4 := HY.out
            subst h1
            rw [h3, h4]; omega, below_step (below_drew1 hB) hb1⟩
        case measure => have := HK.out; simp [natV]; omega
    · have e1 : decide (i > 0) = false := decide_eq_false (by omega)
      go_wp2
      go_ret
      refine ⟨?_, hB⟩
      rw [(rises_at l).2 fun j hj => HA.out j hj (by omega)]; rfl

/-- events may be -/
def fineL (l : List S46) : Bool := l.all rightB && risesB l
set_option maxRecDepth 100000 in
set_option maxHeartbeats 4000000 in
theorem fine_calls (A : Option Addr) (c : Nat) (l : List S46) (w : World) (hC : Kd.C k46 w A l.length l) (hc : l.length ≤ c) (hn : l.length < 4611686018427387904) :
    Calls Tryd.prog 28 #[.slice A l.length c] w fun e w' => e = .returned (.bool (fineL l)) ∧ Below w.heap.size w w' := by
  have H := Aside0.mk (contains_calls A c l w hC hc hn)
  obtain ⟨b, hb⟩ : ∃ b, l.all rightB = b := ⟨_, rfl⟩
  cases b with
  | false =>
    have hf : fineL l = false := by unfold fineL; rw [hb]; rfl
    rw [hf]
    rw [hb] at H
    clear hb hf hC
    go_enter Tryd.func28, Tryd.ntmps28
    go_wp2_with (go_at_call 50; refine H.out.mono ?_; rintro e w1 ⟨rfl, hb1⟩)
    go_ret
    exact ⟨rfl, hb1⟩
  | true =>
    have hr : ∀ x ∈ l, 0 ≤ x.f4 ∧ x.f4 < 1099511627776 := fun x hx => by
      have := List.all_eq_true.1 hb x hx
      unfold rightB at this
      have := of_decide_eq_true this
      omega
    have hf : fineL l = risesB l := by unfold fineL; rw [hb]; rfl
    rw [hf]
    rw [hb] at H
    have HC := Aside0.mk hC
    have H2 := Aside0.mk (fun W (h : Kd.C k46 W A l.length l) => sorted_calls A c l W h hc hn hr)
    obtain ⟨f, hf⟩ : ∃ f, risesB l = f := ⟨_, rfl⟩
    rw [hf] at H2 ⊢
    clear hb hf hC hr
    go_enter Tryd.func28, Tryd.ntmps28
    go_wp2_with (first
      | (go_at_call 50; refine H.out.mono ?_; rintro e w1 ⟨rfl, hb1⟩)
      | (go_at_call 52; refine (H2.out _ (Kd.C_below HC.out hb1)).mono ?_; rintro e w2 ⟨rfl, hb2⟩))
    go_ret
    exact ⟨rfl, below_step hb1 hb2⟩
end Go.Proofs.YtdpomgfibjlehaaDoor.Tr

set_option linter.unusedVariables false
set_option linter.unusedSimpArgs false
namespace Go.Proofs.YtdpomgfibjlehaaDoor.PTr
open Go Go.Proofs Go.RowKit Go.Proofs.YtdpomgfibjlehaaDoorW.PrintWords Go.Proofs.YtdpomgfibjlehaaDoorW.PrintLast Go.Proofs.YtdpomgfibjlehaaDoorW.PrintMore
/-- trace.fine, for the print -/
def trace_fine.f (l : List S46) : Option Bool := if l.length < 4611686018427387904 then some (Tr.fineL l) else none
theorem trace_fine.calls (A0 : Option Addr) (c0 : Nat) (l0 : List S46) (r : Bool) (w : World) (hr0 : Kd.C k46 w A0 l0.length l0) (hc0 : l0.length ≤ c0) (h : trace_fine.f l0 = some r) :
    Calls Tryd.prog 28 #[.slice A0 l0.length c0] w fun e w' => e = .returned (.bool r) ∧ Below w.heap.size w w' := by
  unfold trace_fine.f at h
  split at h
  · rename_i hn
    obtain rfl := Option.some.inj h
    exact Tr.fine_calls A0 c0 l0 w hr0 hc0 hn
  · cases h
end Go.Proofs.YtdpomgfibjlehaaDoor.PTr
