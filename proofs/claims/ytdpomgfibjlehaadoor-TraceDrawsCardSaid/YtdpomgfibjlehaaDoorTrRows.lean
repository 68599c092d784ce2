/- A part of the proofs over trace (TrRows): contracts of the program's functions and plain laws. Conditions: those that each theorem states. -/
import Derived.Test.YtdpomgfibjlehaaDoorTrFine
import Derived.Test.YtdpomgfibjlehaaDoorPTrx13
import Derived.RangeFuncFrom
import Derived.RangeFuncCalls
import Derived.RangeFuncLeaves
import Derived.RangeFuncBound
import Derived.RangeFuncNested
import Derived.Shelf.Abstract
import Derived.OwnWalkIn
import Derived.TacticsInMore
import Derived.LoopNIn
import Derived.LoopIn
import Derived.WalkMore
set_option linter.unusedVariables false
set_option linter.unusedSimpArgs false
/- trace.rows: the attempts of events, one behind the other. -/
namespace Go.Proofs.YtdpomgfibjlehaaDoor.Tr
open Go Go.Proofs Go.RowKit Go.Lib Go.Proofs.YtdpomgfibjlehaaDoorW.PrintWords Go.Proofs.YtdpomgfibjlehaaDoorW.PrintLast Go.Proofs.YtdpomgfibjlehaaDoorW.PrintMore Go.Proofs.YtdpomgfibjlehaaDoor.PTr
attribute [local go_sem] Oper.semAt_some

structure TRow where
  job : Int
  part : Int
  nodes : Int
  fr : Int
  to_ : Int
  en : Int
abbrev rowV (r : TRow) : Value := .agg #[.int .i64 r.job, .int .i64 r.part, .int .u64 r.nodes, .int .i64 r.fr, .int .i64 r.to_, .int .i64 r.en]
abbrev rowC (r : TRow) : Array Value := #[.int .i64 r.job, .int .i64 r.part, .int .u64 r.nodes, .int .i64 r.fr, .int .i64 r.to_, .int .i64 r.en]
abbrev evC (x : S46) : Array Value := #[.int .i64 x.f0, .int .i64 x.f1, .int .i64 x.f2, .int .u64 x.f3, .int .i64 x.f4, .bool x.f5, .int .i64 x.f6]
/-- an event that ends an attempt that another one began -/
def endsB (x y : S46) : Bool := y.f5 && (y.f0 == x.f0 && y.f1 == x.f1)
def rowAt (l : List S46) (i : Nat) (x : S46) : TRow :=
  if 0 ≤ idxI (endsB x) (l.drop (i + 1)) then ⟨x.f0, x.f1, x.f3, x.f4, (rd_T46 l ((i : Int) + 1 + idxI (endsB x) (l.drop (i + 1)))).f4, (i : Int) + 1 + idxI (endsB x) (l.drop (i + 1))⟩
  else ⟨x.f0, x.f1, x.f3, x.f4, 1099511627776, -1⟩
def rowI (l : List S46) (i : Nat) : Option TRow := match l[i]? with
  | none => none
  | some x => if x.f5 then none else some (rowAt l i x)
/-- those that the first i events begin -/
def rowsTo (l : List S46) (i : Nat) : List TRow := (List.range i).filterMap (rowI l)
def rowsL (l : List S46) : List TRow := rowsTo l l.length
theorem rowsTo_succ (l : List S46) (i : Nat) : rowsTo l (i + 1) = rowsTo l i ++ (rowI l i).toList := by
  unfold rowsTo; rw [List.range_succ, List.filterMap_append]
  congr 1
theorem rowsTo_prefix (l : List S46) (i : Nat) (n : Nat) (h : i ≤ n) : rowsTo l i <+: rowsTo l n := by
  induction n with
  | zero => obtain rfl : i = 0 := by omega
            exact List.prefix_refl _
  | succ n ih =>
    rcases Nat.lt_or_ge n i with h1 | h1
    · obtain rfl : i = n + 1 := by omega
      exact List.prefix_refl _
    · rw [rowsTo_succ]; exact (ih h1).trans (List.prefix_append _ _)
theorem rowsTo_lt (l : List S46) (i : Nat) (h : i < l.length) (r : TRow) (hr : rowI l i = some r) : (rowsTo l i).length < (rowsL l).length := by
  obtain ⟨q, hq⟩ := rowsTo_prefix l (i + 1) l.length h
  unfold rowsL
  rw [← hq, rowsTo_succ, hr]
  simp
theorem rowI_eq (l : List S46) (i : Nat) (h : i < l.length) : rowI l i = if l[i].f5 then none else some (rowAt l i l[i]) := by
  unfold rowI; rw [List.getElem?_eq_getElem h]

set_option maxRecDepth 100000 in
set_option maxHeartbeats 2000000 in
theorem ends_calls (x y : S46) (b : Nat) (w : World) (hb : w.heap[b]? = some (.cells (evC x) 46 (0, 0))) :
    Calls Tryd.prog 58 #[evV y, .pointer (some ⟨b, 0, none⟩)] w fun e w' => e = .returned (.bool (endsB x y)) ∧ Below w.heap.size w w' := by
  have c0 : ∀ o, (w.alloc o).cell? ⟨b, 0, none⟩ = some (.int .i64 x.f0) := fun o => (blk_cell (blk_alloc hb o) 0).trans rfl
  have c1 : ∀ o, (w.alloc o).cell? ⟨b, 1, none⟩ = some (.int .i64 x.f1) := fun o => (blk_cell (blk_alloc hb o) 1).trans rfl
  clear hb
  obtain ⟨f5, h5⟩ : ∃ f, y.f5 = f := ⟨_, rfl⟩
  obtain ⟨g0, h0⟩ : ∃ f, (y.f0 == x.f0) = f := ⟨_, rfl⟩
  obtain ⟨g1, h1⟩ : ∃ f, (y.f1 == x.f1) = f := ⟨_, rfl⟩
  have he : endsB x y = (f5 && (g0 && g1)) := by unfold endsB; rw [h5, h0, h1]
  rw [he]
  clear he
  cases f5 with
  | false =>
    go_enter Tryd.func58, Tryd.ntmps58
    go_wp2
    go_ret
    exact ⟨rfl, (Below.refl _ w).alloc (Nat.le_refl _) _⟩
  | true =>
    cases g0 with
    | false =>
      go_enter Tryd.func58, Tryd.ntmps58
      go_wp2
      go_ret
      exact ⟨rfl, (Below.refl _ w).alloc (Nat.le_refl _) _⟩
    | true =>
      cases g1 <;>
      (go_enter Tryd.func58, Tryd.ntmps58
       go_wp2
       go_ret
       exact ⟨rfl, (Below.refl _ w).alloc (Nat.le_refl _) _⟩)

set_option maxRecDepth 100000 in
set_option maxHeartbeats 4000000 in
theorem index58_calls (x : S46) (b : Nat) (A : Option Addr) (n c : Nat) (l : List S46) (hnl : n = l.length) (w : World) (hC : Kd.C k46 w A n l) (hc : n ≤ c) (hn : n < 4611686018427387904) (hb : w.heap[b]? = some (.cells (evC x) 46 (0, 0))) :
    Calls Tryd.prog 57 #[.slice A n c, .func (.func 58) #[] #[.pointer (some ⟨b, 0, none⟩)]] w fun e w' => e = .returned (.int .i64 (idxI (endsB x) l)) ∧ Below w.heap.size w w' := by
  subst hnl
  have HBX := Aside0.mk hb
  clear hb
  go_enter Tryd.func57, Tryd.ntmps57
  go_wp2
  go_loopw [8] (fun v8 wr => ∃ i : Nat, v8 = .int .i64 (i : Int) ∧ i ≤ l.length ∧ (∀ j (hj : j < l.length), j < i → endsB x l[j] = false) ∧ Below w.heap.size w wr) (fun v8 wr => l.length - natV v8)
  case atStart => exact ⟨0, rfl, Nat.zero_le _, fun j _ h => by omega, Below.refl _ w⟩
  case round =>
    obtain ⟨i, rfl, hi, hall, hB⟩ := hrel
    by_cases hlt : i < l.length
    · have e1 : decide ((i : Int) < (l.length : Int)) = true := by simp; omega
      obtain ⟨ad, rfl, q0, q1, q2, q3, q4, q5, q6⟩ := at_T46 (Kd.C_below hC hB) (i : Int) (by omega) (by omega)
      rw [rd46 l i hlt] at q0 q1 q2 q3 q4 q5 q6
      rw [Int.toNat_natCast] at q0 q1 q2 q3 q4 q5 q6
      have HA := Aside0.mk hall
      clear hall
      obtain ⟨f, hf⟩ : ∃ b, endsB x l[i] = b := ⟨_, rfl⟩
      have HX := Aside0.mk (blk_below HBX.out hB)
      have HC := Aside0.mk (fun W h => ends_calls x l[i] b W h)
      have HB := Aside0.mk hf
      cases f with
      | true =>
        clear hf
        go_wp2_with (go_at_call 58; refine (HC.out _ HX.out).mono ?_; rintro e w1 ⟨rfl, hb1⟩; rw [HB.out])
        go_ret
        exact ⟨ret_int (idxI_at _ l i hlt HA.out HB.out).symm, below_step hB hb1⟩
      | false =>
        clear hf
        go_wp2_with (go_at_call 58; refine (HC.out _ HX.out).mono ?_; rintro e w1 ⟨rfl, hb1⟩; rw [HB.out])
        go_roundw
        case rel => exact ⟨i + 1, by go_num, by omega, fun j hj hji => by
          rcases Nat.lt_or_ge j i with h | h
          · exact HA.out j hj h
          · obtain rfl : j = i := by omega
            exact HB.out, below_step hB hb1⟩
        case measure => simp [natV]; omega
    · obtain rfl : i = l.length := by omega
      have e1 : decide ((l.length : Int) < (l.length : Int)) = false := by simp
      have HA := Aside0.mk hall
      clear hall
      go_wp2
      go_ret
      exact ⟨ret_int (idxI_none _ l (fun j hj => HA.out j hj hj)).symm, hB⟩

/-- cells stay -/
theorem C46_cells {W W' : World} {A : Option Addr} {n : Nat} {l : List S46} (hC : Kd.C k46 W A n l) (h : ∀ a v, (0 < n ∧ ∃ ad, A = some ad ∧ a.block = ad.block) → W.cell? a = some v → W'.cell? a = some v) : Kd.C k46 W' A n l := by
  obtain ⟨h1, h2, h3⟩ := hC
  refine ⟨h1, h2, fun h0 => ?_⟩
  obtain ⟨ad, e, hc⟩ := h3 h0
  refine ⟨ad, e, fun j x hx => ?_⟩
  obtain ⟨cs, q1, q2, q3⟩ := hc j x hx
  refine ⟨cs, q1, ?_, fun i u hu => h _ _ ⟨h0, ad, e, ?_⟩ (q3 i u hu)⟩
  · obtain rfl := k46_open q2; exact k46_mk W' x
  · unfold Addr.add; split <;> rfl
theorem idxI_range (p : S46 → Bool) (l : List S46) : -1 ≤ idxI p l ∧ idxI p l < l.length := by
  unfold idxI
  split
  · rename_i h
    have : l.findIdx p < l.length := List.findIdx_lt_length.2 (by obtain ⟨x, hx, hp⟩ := List.any_eq_true.1 h; exact ⟨x, hx, hp⟩)
    omega
  · omega

set_option maxRecDepth 100000 in
set_option maxHeartbeats 16000000 in
theorem rows1_in (n : Nat) (hn : 1 ≤ n) (yl b1 : Nat) (A : Option Addr) (c : Nat) (l : List S46) (hl : l.length < 4611686018427387904) (hc : l.length ≤ c) (J Jx : List TRow → World → Prop) (Kp : World → World → Prop) (W0 : World)
    (hJ : ∀ pre A B, Below A.heap.size A B → J pre A → J pre B)
    (hY : ∀ pre (x : TRow) W, J pre W → pre.length < (rowsL l).length → YieldAt Fence.wide (n - 1) Tryd.prog yl #[rowV x] W fun e W' =>
      (e = .returned (.bool true) ∧ J (pre ++ [x]) W' ∧ Kp W W') ∨ (e = .returned (.bool false) ∧ Jx (pre ++ [x]) W'))
    (hK : ∀ W W', Kp W W' → ∀ a v, (a.block = b1 ∨ (0 < l.length ∧ ∃ ad, A = some ad ∧ a.block = ad.block)) → W.cell? a = some v → W'.cell? a = some v)
    (hC : Kd.C k46 W0 A l.length l) (c1 : W0.cell? ⟨b1, 0, none⟩ = some (.slice A l.length c)) (h0 : J [] W0) :
    CallsIn Fence.wide n Tryd.prog 56 #[.func (.yield yl) #[] #[], .pointer (some ⟨b1, 0, none⟩)] W0 fun e W' => (∃ v, e = .returned v) ∧
      ((∃ ys, ys = rowsL l ∧ J ys W') ∨ (∃ pre, pre <+: rowsL l ∧ Jx pre W')) := by
  have f57 : Fence.wide.fn 57 := trivial
  have hu77 := Tryd.underlying77
  have hu75 := Tryd.underlying75
  have HH0 := Aside0.mk h0
  have HC0 := Aside0.mk hC
  clear h0 hC
  refine callsIn_of_wp Tryd.func56 rfl trivial ?_ rfl
  simp only [Tryd.ntmps56, List.size_toArray, List.length_cons, List.length_nil, Nat.reduceAdd, Nat.reduceSub, Array.replicate_succ, Array.replicate_zero, List.push_toArray, List.append_toArray, List.nil_append, List.cons_append]
  gi_wp2
  have HC1 := Aside0.mk c1
  clear c1
  gi_loopw [9] (fun v9 wr => ∃ i : Nat, v9 = .int .i64 (i : Int) ∧ i ≤ l.length ∧ Kd.C k46 wr A l.length l ∧ wr.cell? ⟨b1, 0, none⟩ = some (.slice A l.length c) ∧ J (rowsTo l i) wr)
    (fun v9 wr => l.length - natV v9)
  case atStart => exact ⟨0, rfl, Nat.zero_le _, HC0.out, HC1.out, HH0.out⟩
  case round =>
    obtain ⟨i, rfl, hi, hCr, hc1, hJr⟩ := hrel
    have HJr := Aside0.mk hJr
    have HCr := Aside0.mk hCr
    clear hJr hCr HC0 HC1 HH0
    by_cases hlt : i < l.length
    · have e1 : decide ((i : Int) < (l.length : Int)) = true := by simp; omega
      obtain ⟨ad, hA, q0, q1, q2, q3, q4, q5, q6⟩ := at_T46 HCr.out (i : Int) (by omega) (by omega)
      rw [rd46 l i hlt] at q0 q1 q2 q3 q4 q5 q6
      rw [Int.toNat_natCast] at q0 q1 q2 q3 q4 q5 q6
      have hrI := rowI_eq l i hlt
      obtain ⟨x, hx⟩ : ∃ x, l[i] = x := ⟨_, rfl⟩
      rw [hx] at q0 q1 q2 q3 q4 q5 q6 hrI
      have HX := Aside0.mk hx
      clear hx
      subst hA
      by_cases hE : x.f5 = true
      · rw [if_pos hE] at hrI
        have HRI := Aside0.mk hrI
        have HE := Aside0.mk hE
        rw [hE] at q5
        clear hrI hE
        have hba : Below wr.heap.size wr (wr.alloc (.cells #[.int .i64 x.f0, .int .i64 x.f1, .int .i64 x.f2, .int .u64 x.f3, .int .i64 x.f4, .bool true, .int .i64 x.f6] 46)) := (Below.refl _ wr).alloc (Nat.le_refl _) _
        have HBA := Aside0.mk hba
        clear hba
        gi_wp2
        go_roundw
        case rel => exact ⟨i + 1, by go_num, by omega, Kd.C_below HCr.out HBA.out, below_cell1 HBA.out hc1, by rw [rowsTo_succ, HRI.out]; simpa using hJ _ _ _ HBA.out HJr.out⟩
        case measure => simp [natV]; omega
      · have hE2 : x.f5 = false := by simpa using hE
        rw [if_neg hE] at hrI
        rw [hE2] at q5
        have HE := Aside0.mk hE2
        clear hE hE2
        obtain ⟨z, hz⟩ : ∃ z : Int, (i : Int) + 1 = z := ⟨_, rfl⟩
        have hw1 : IntKind.i64.wrap ((i : Int) + 1) = z := by rw [IntKind.wrap_i64]; omega
        have hzn : z.toNat = i + 1 := by omega
        obtain ⟨i0, hi0, hz0, hz1, hz2⟩ := info_parts info46
        have hcut := cut_from 22 46 .i64 Tryd.underlying22 hi0 7 hz1 (some ad) l.length c z (by omega) (by omega)
        rw [hzn] at hcut
        have hcd := Kd.C_drop (m := i + 1) HCr.out (by omega) hc
        rw [show k46.sz = 7 from rfl, List.length_drop] at hcd
        obtain ⟨A', hA'⟩ : ∃ A', (if c = i + 1 then some ad else (some ad).map (·.add ((i + 1) * 7))) = A' := ⟨_, rfl⟩
        rw [hA'] at hcut hcd
        have HCD := Aside0.mk hcd
        obtain ⟨m', hm'⟩ : ∃ m', l.length - (i + 1) = m' := ⟨_, rfl⟩
        obtain ⟨cc, hcc⟩ : ∃ cc, c - (i + 1) = cc := ⟨_, rfl⟩
        rw [hm', hcc] at hcut
        rw [hm'] at HCD
        have hmc : m' ≤ cc := by omega
        have HD := Aside0.mk (show m' = (l.drop (i + 1)).length by rw [List.length_drop]; omega)
        have hmn : m' < 4611686018427387904 := by omega
        obtain ⟨r, hr⟩ : ∃ r, idxI (endsB x) (l.drop (i + 1)) = r := ⟨_, rfl⟩
        have hrr := idxI_range (endsB x) (l.drop (i + 1))
        rw [hr, List.length_drop] at hrr
        have HR := Aside0.mk hr
        have HRI := Aside0.mk hrI
        have HZ := Aside0.mk hz
        have hba : Below wr.heap.size wr ((wr.alloc (.cells #[.int .i64 x.f0, .int .i64 x.f1, .int .i64 x.f2, .int .u64 x.f3, .int .i64 x.f4, .bool false, .int .i64 x.f6] 46)).alloc (.cells #[.int .i64 x.f0, .int .i64 x.f1, .int .u64 x.f3, .int .i64 x.f4, .int .i64 1099511627776, .int .i64 (-1)] 77)) :=
          ((Below.refl _ wr).alloc (Nat.le_refl _) _).alloc (by simp) _
        have c1' := below_cell1 hba hc1
        have nb0 := blk_alloc (blk_new wr (.cells #[.int .i64 x.f0, .int .i64 x.f1, .int .i64 x.f2, .int .u64 x.f3, .int .i64 x.f4, .bool false, .int .i64 x.f6] 46)) (.cells #[.int .i64 x.f0, .int .i64 x.f1, .int .u64 x.f3, .int .i64 x.f4, .int .i64 1099511627776, .int .i64 (-1)] 77)
        have nb1 := blk_new (wr.alloc (.cells #[.int .i64 x.f0, .int .i64 x.f1, .int .i64 x.f2, .int .u64 x.f3, .int .i64 x.f4, .bool false, .int .i64 x.f6] 46)) (.cells #[.int .i64 x.f0, .int .i64 x.f1, .int .u64 x.f3, .int .i64 x.f4, .int .i64 1099511627776, .int .i64 (-1)] 77)
        have HBA := Aside0.mk hba
        have NB0 := Aside0.mk nb0
        have NB1 := Aside0.mk nb1
        have HIX := Aside0.mk (fun W h1 h2 => index58_calls x wr.heap.size A' m' cc (l.drop (i + 1)) HD.out W h1 hmc hmn h2)
        rw [hr] at HIX
        clear hrI hz hzn hcd hA' hm' hcc hr hba nb0 nb1 i0 hi0 hz0 hz1 hz2
        have hev : (evC x) = #[.int .i64 x.f0, .int .i64 x.f1, .int .i64 x.f2, .int .u64 x.f3, .int .i64 x.f4, .bool false, .int .i64 x.f6] := by unfold evC; rw [HE.out]
        have HEV := Aside0.mk hev
        clear hev
        have hb1l : b1 < wr.heap.size := World.block_lt_of_cell? wr ⟨b1, 0, none⟩ hc1
        have hneb : ¬ b1 = wr.heap.size + 1 := by omega
        have hadl : ad.block < wr.heap.size := by
          have := World.block_lt_of_cell? wr _ q0
          rw [show (ad.add (i * 7)).block = ad.block by unfold Addr.add; split <;> rfl] at this
          exact this
        by_cases hr0 : 0 ≤ r
        · have e2 : decide (r ≥ 0) = true := decide_eq_true hr0
          obtain ⟨j, hj⟩ : ∃ j : Nat, (i : Int) + 1 + r = (j : Int) := ⟨((i : Int) + 1 + r).toNat, by omega⟩
          have hjl : j < l.length := by omega
          have hjl2 : (j : Int) < (l.length : Int) := by omega
          obtain ⟨ad2, hA2, p0, p1, p2, p3, p4, p5, p6⟩ := at_T46 HCr.out (j : Int) (by omega) (by omega)
          obtain rfl : ad = ad2 := by injection hA2
          rw [Int.toNat_natCast] at p4
          have hra : rowAt l i x = ⟨x.f0, x.f1, x.f3, x.f4, (rd_T46 l (j : Int)).f4, (j : Int)⟩ := by
            unfold rowAt; rw [HR.out, if_pos hr0, hj]
          obtain ⟨tt, htt⟩ : ∃ tt, (rd_T46 l (j : Int)).f4 = tt := ⟨_, rfl⟩
          rw [htt] at p4 hra
          have hri := HRI.out
          rw [hra] at hri
          have HRI2 := Aside0.mk hri
          clear p0 p1 p2 p3 p5 p6 hA2 hra htt hri HRI
          have HRI := HRI2
          clear HRI2
          have hw2 : IntKind.i64.wrap (z + r) = (j : Int) := by have := HZ.out; rw [IntKind.wrap_i64]; omega
          have P4 := Aside0.mk p4
          clear hj p4 hr0
          gi_wp2_with ((gi_at_call 57; refine (callsIn_wide.2 (HIX.out _ (Kd.C_below HCD.out HBA.out) (by rw [HEV.out]; exact NB0.out))).mono ?_; rintro e w1 ⟨rfl, hb1⟩; have n1 := blk_below NB1.out hb1; rw [World.size_alloc] at n1; have k5 : w1.cell? ⟨wr.heap.size + 1, 5, none⟩ = some (.int .i64 (-1)) := (blk_cell n1 5).trans rfl; have f5 := blk_frozen n1 5; have k0 : w1.cell? ⟨wr.heap.size + 1, 0, none⟩ = some (.int .i64 x.f0) := (blk_cell n1 0).trans rfl; have k1 : w1.cell? ⟨wr.heap.size + 1, 1, none⟩ = some (.int .i64 x.f1) := (blk_cell n1 1).trans rfl; have k2 : w1.cell? ⟨wr.heap.size + 1, 2, none⟩ = some (.int .u64 x.f3) := (blk_cell n1 2).trans rfl; have k3 : w1.cell? ⟨wr.heap.size + 1, 3, none⟩ = some (.int .i64 x.f4) := (blk_cell n1 3).trans rfl; have k4 : w1.cell? ⟨wr.heap.size + 1, 4, none⟩ = some (.int .i64 1099511627776) := (blk_cell n1 4).trans rfl; have f4 := blk_frozen n1 4; have c2 := below_cell1 hb1 c1'; have c3 : ∀ u, (w1.setCell ⟨wr.heap.size + 1, 5, none⟩ u).cell? ⟨b1, 0, none⟩ = some (.slice (some ad) l.length c) := fun u => (World.cell?_of_block (w := w1) (Below.heap_setCell w1 ⟨wr.heap.size + 1, 5, none⟩ u b1 hneb)).trans c2; have p4' := below_cell1 hb1 (below_cell1 HBA.out P4.out); have p5' : ∀ u, (w1.setCell ⟨wr.heap.size + 1, 5, none⟩ u).cell? ⟨(ad.add (j * 7)).block, (ad.add (j * 7)).off + 4, none⟩ = some (.int .i64 tt) := fun u => (World.cell?_of_block (w := w1) (Below.heap_setCell w1 ⟨wr.heap.size + 1, 5, none⟩ u _ (by have e : (ad.add (j * 7)).block = ad.block := (by unfold Addr.add; split <;> rfl); show (ad.add (j * 7)).block ≠ wr.heap.size + 1; rw [e]; omega))).trans p4'; have hbw : Below wr.heap.size wr ((w1.setCell ⟨wr.heap.size + 1, 5, none⟩ (.int .i64 (j : Int))).setCell ⟨wr.heap.size + 1, 4, none⟩ (.int .i64 tt)) := ((below_step HBA.out hb1).setCell (p := ⟨wr.heap.size + 1, 5, none⟩) (Nat.le_succ _) _).setCell (p := ⟨wr.heap.size + 1, 4, none⟩) (Nat.le_succ _) _; have HBW := Aside0.mk hbw; obtain ⟨fn, tmps, assign, body, hyy, hRR⟩ := hY _ (TRow.mk x.f0 x.f1 x.f3 x.f4 tt (j : Int)) _ (hJ _ _ _ hbw HJr.out) (rowsTo_lt l i hlt _ HRI.out); (try dsimp only at hyy); have HRR := Aside0.mk hRR; clear hRR hbw))
          refine HRR.out.mono ?_
          rintro e w6 (⟨rfl, hJ6, hk6⟩ | ⟨rfl, hJx6⟩)
          · have HK6 := Aside0.mk (hK _ _ hk6)
            have HJ6 := Aside0.mk hJ6
            have HC1 := Aside0.mk hc1
            clear hk6 hJ6 hc1 hyy
            gi_wp2
            go_roundw
            case rel => exact ⟨i + 1, by rw [← HZ.out]; go_num, by omega, C46_cells (Kd.C_below HCr.out HBW.out) (fun a v ha hv => HK6.out a v (.inr ha) hv), HK6.out _ _ (.inl rfl) (below_cell1 HBW.out HC1.out), by rw [rowsTo_succ, HRI.out]; exact HJ6.out⟩
            case measure => have := HZ.out; simp [natV]; omega
          · have HJX := Aside0.mk hJx6
            clear hJx6 hyy
            gi_wp2
            (try simp only [Exit.noGoto_normal, Exit.noGoto_exit, Exit.noGoto_ret])
            refine bodyPost_ret (results_none rfl _ _ _) rfl ?_
            refine ⟨⟨_, rfl⟩, .inr ⟨_, ?_, HJX.out⟩⟩
            have hp := rowsTo_prefix l (i + 1) l.length hlt
            rw [rowsTo_succ, HRI.out] at hp
            exact hp
        · have e2 : decide (r ≥ 0) = false := decide_eq_false hr0
          have hra : rowAt l i x = ⟨x.f0, x.f1, x.f3, x.f4, 1099511627776, -1⟩ := by
            unfold rowAt; rw [HR.out, if_neg hr0]
          have hri := HRI.out
          rw [hra] at hri
          have HRI2 := Aside0.mk hri
          clear hra hri HRI hr0
          have HRI := HRI2
          clear HRI2
          gi_wp2_with ((gi_at_call 57; refine (callsIn_wide.2 (HIX.out _ (Kd.C_below HCD.out HBA.out) (by rw [HEV.out]; exact NB0.out))).mono ?_; rintro e w1 ⟨rfl, hb1⟩; have n1 := blk_below NB1.out hb1; rw [World.size_alloc] at n1; have k0 : w1.cell? ⟨wr.heap.size + 1, 0, none⟩ = some (.int .i64 x.f0) := (blk_cell n1 0).trans rfl; have k1 : w1.cell? ⟨wr.heap.size + 1, 1, none⟩ = some (.int .i64 x.f1) := (blk_cell n1 1).trans rfl; have k2 : w1.cell? ⟨wr.heap.size + 1, 2, none⟩ = some (.int .u64 x.f3) := (blk_cell n1 2).trans rfl; have k3 : w1.cell? ⟨wr.heap.size + 1, 3, none⟩ = some (.int .i64 x.f4) := (blk_cell n1 3).trans rfl; have k4 : w1.cell? ⟨wr.heap.size + 1, 4, none⟩ = some (.int .i64 1099511627776) := (blk_cell n1 4).trans rfl; have k5 : w1.cell? ⟨wr.heap.size + 1, 5, none⟩ = some (.int .i64 (-1)) := (blk_cell n1 5).trans rfl; have HBW := Aside0.mk (below_step HBA.out hb1); obtain ⟨fn, tmps, assign, body, hyy, hRR⟩ := hY _ (TRow.mk x.f0 x.f1 x.f3 x.f4 1099511627776 (-1)) _ (hJ _ _ _ HBW.out HJr.out) (rowsTo_lt l i hlt _ HRI.out); (try dsimp only at hyy); have HRR := Aside0.mk hRR; clear hRR))
          refine HRR.out.mono ?_
          rintro e w6 (⟨rfl, hJ6, hk6⟩ | ⟨rfl, hJx6⟩)
          · have HK6 := Aside0.mk (hK _ _ hk6)
            have HJ6 := Aside0.mk hJ6
            have HC1 := Aside0.mk hc1
            clear hk6 hJ6 hc1 hyy
            gi_wp2
            go_roundw
            case rel => exact ⟨i + 1, by rw [← HZ.out]; go_num, by omega, C46_cells (Kd.C_below HCr.out HBW.out) (fun a v ha hv => HK6.out a v (.inr ha) hv), HK6.out _ _ (.inl rfl) (below_cell1 HBW.out HC1.out), by rw [rowsTo_succ, HRI.out]; exact HJ6.out⟩
            case measure => have := HZ.out; simp [natV]; omega
          · have HJX := Aside0.mk hJx6
            clear hJx6 hyy
            gi_wp2
            (try simp only [Exit.noGoto_normal, Exit.noGoto_exit, Exit.noGoto_ret])
            refine bodyPost_ret (results_none rfl _ _ _) rfl ?_
            refine ⟨⟨_, rfl⟩, .inr ⟨_, ?_, HJX.out⟩⟩
            have hp := rowsTo_prefix l (i + 1) l.length hlt
            rw [rowsTo_succ, HRI.out] at hp
            exact hp
    · obtain rfl : i = l.length := by omega
      have e1 : decide ((l.length : Int) < (l.length : Int)) = false := by simp
      gi_wp2
      (try simp only [Exit.noGoto_normal, Exit.noGoto_exit, Exit.noGoto_ret])
      refine bodyPost_end (results_none rfl _ _ _) rfl ?_
      exact ⟨⟨_, rfl⟩, .inl ⟨_, rfl, HJr.out⟩⟩
end Go.Proofs.YtdpomgfibjlehaaDoor.Tr

set_option linter.unusedVariables false
set_option linter.unusedSimpArgs false
/- trace.Busy -/
namespace Go.Proofs.YtdpomgfibjlehaaDoor.Tr
open Go Go.Proofs Go.RowKit Go.Lib Go.Proofs.YtdpomgfibjlehaaDoorW.PrintWords Go.Proofs.YtdpomgfibjlehaaDoorW.PrintLast Go.Proofs.YtdpomgfibjlehaaDoorW.PrintMore Go.Proofs.YtdpomgfibjlehaaDoor.PTr
attribute [local go_sem] Oper.semAt_some

theorem cell_cells {W : World} {a : Addr} {v : Value} (h : W.cell? a = some v) : ∃ cs e f, W.heap[a.block]? = some (.cells cs e f) := by
  unfold World.cell? at h
  split at h
  · rename_i c e f hh; exact ⟨c, e, f, hh⟩
  · cases h
/-- blocks of cells ahead of B stay, but for s -/
def KeepB (B s : Nat) (W W' : World) : Prop := ∀ k cs e f, W.heap[k]? = some (.cells cs e f) → k < B → k ≠ s → W'.heap[k]? = some (.cells cs e f)
theorem KeepB.trans {B s : Nat} {X Y Z : World} (h : KeepB B s X Y) (k : KeepB B s Y Z) : KeepB B s X Z := fun i cs e f hi hb hs => k i cs e f (h i cs e f hi hb hs) hb hs
theorem KeepB.putObj {B s : Nat} (W : World) (l : Nat) (o o' : Obj) (hl : W.heap[l]? = some o) (ho : o.isCells = false) : KeepB B s W (W.putObj l o') := fun k cs e f hk _ _ => by
  have hne : k ≠ l := fun h => by subst h; rw [hk] at hl; cases hl; cases ho
  exact (World.putObj_heap_other hne).trans hk
theorem KeepB.below {B s : Nat} {W W' : World} (h : Below W.heap.size W W') : KeepB B s W W' := fun k cs e f hk _ _ => (h.block k (blk_lt hk)).trans hk
theorem KeepB.cell {B s : Nat} {W W' : World} (h : KeepB B s W W') {a : Addr} {v : Value} (hc : W.cell? a = some v) (h1 : a.block < B) (h2 : a.block ≠ s) : W'.cell? a = some v := by
  obtain ⟨cs, e, f, hk⟩ := cell_cells hc
  rw [← hc]
  exact World.cell?_of_block (w := W) ((h _ cs e f hk h1 h2).trans hk.symm)
theorem grown_of_below {A B : World} (h : Below A.heap.size A B) : A.grownBy B none := ⟨h.os, h.tape, h.output, h.size, fun i hi _ => h.block i hi⟩
theorem keepsOthers_below {A B : World} (h : Below A.heap.size A B) : KeepsOthers A B := KeepsOthers.of_grownBy (grown_of_below h) (fun j o e => by cases e)

set_option maxHeartbeats 1000000 in
theorem rows_calls (A : Option Addr) (n c : Nat) (w : World) : Calls Tryd.prog 31 #[.slice A n c] w fun e w' => e = .returned (.func (.func 56) #[] #[.pointer (some ⟨w.heap.size, 0, none⟩)]) ∧ w' = w.alloc (.cells #[.slice A n c] 22) := by
  go_enter Tryd.func31, Tryd.ntmps31
  go_wp2
  go_ret
  exact ⟨rfl, rfl⟩

theorem row_lt {A : Option Addr} {l : List S46} {w : World} (hC : Kd.C k46 w A l.length l) (ad : Addr) (hA : A = some ad) (h0 : 0 < l.length) : ad.block < w.heap.size := by
  obtain ⟨ad', hA', q0, _⟩ := at_T46 hC 0 (by omega) (by omega)
  have e : ad' = ad := by rw [hA] at hA'; injection hA' with h; exact h.symm
  have := World.block_lt_of_cell? w _ q0
  rw [e, show (ad.add ((0 : Int).toNat * 7)).block = ad.block by unfold Addr.add; split <;> rfl] at this
  exact this
theorem rows_stops (n : Nat) (hn : 1 ≤ n) (b1 : Nat) (A : Option Addr) (c : Nat) (l : List S46) (hl : l.length < 4611686018427387904) (hc : l.length ≤ c) (w : World) (s : Nat) (hs : s < w.heap.size) (hs1 : b1 ≠ s) (hsA : ∀ ad, A = some ad → 0 < l.length → ad.block ≠ s)
    (hC : Kd.C k46 w A l.length l) (c1 : w.cell? ⟨b1, 0, none⟩ = some (.slice A l.length c)) :
    SeqStopsK Fence.wide n Tryd.prog 56 #[.pointer (some ⟨b1, 0, none⟩)] (fun x : TRow => #[rowV x]) (KeepB w.heap.size s)
      (fun ys => ys = rowsL l) (fun pre => pre <+: rowsL l) (rowsL l).length w := fun yl J Jx W hW hJ _ hY h0 =>
  rows1_in n hn yl b1 A c l hl hc J Jx (KeepB w.heap.size s) W (fun pre A B hAB hA => hJ pre A B none hA (grown_of_below hAB) (fun r e => by cases e)) hY
    (fun X Y hk a v ha hv => by
      have hb1 : b1 < w.heap.size := World.block_lt_of_cell? w ⟨b1, 0, none⟩ c1
      rcases ha with ha | ⟨h0, ad, hA, ha⟩
      · exact hk.cell hv (by omega) (by omega)
      · have := row_lt hC ad hA h0
        exact hk.cell hv (by omega) (fun h => hsA ad hA h0 (by omega)))
    (Kd.C_below hC hW) (below_cell1 hW c1) h0

def holdsB (r : TRow) (at_ : Int) : Bool := decide (r.fr ≤ at_ ∧ at_ < r.to_)
theorem holds_calls (r : TRow) (at_ : Int) (w : World) : Calls Tryd.prog 37 #[rowV r, .int .i64 at_] w fun e w' => e = .returned (.bool (holdsB r at_)) ∧ Below w.heap.size w w' := by
  refine trace_row_holds.calls _ _ _ _ _ _ _ _ w ?_
  unfold trace_row_holds.f holdsB
  split
  · rename_i h; simp [h]
  · rename_i h; simp [h]
theorem or_calls (a b : Int) (w : World) : Calls Tryd.prog 38 #[.int .u64 a, .int .u64 b] w fun e w' => e = .returned (.int .u64 (Go.bits .or .u64 a b)) ∧ Below w.heap.size w w' :=
  (bits_Set_Or.calls a b _ w rfl).mono fun _ _ h => ⟨h.1, Drawn0.below h.2⟩
/-- the nodes in use at a time, of those attempts -/
def busyStep (part at_ u : Int) (r : TRow) : Int := if r.part = part ∧ holdsB r at_ = true then Go.bits .or .u64 u r.nodes else u
def busyU (part at_ : Int) (rs : List TRow) : Int := rs.foldl (busyStep part at_) 0
theorem busyU_snoc (part at_ : Int) (rs : List TRow) (x : TRow) : busyU part at_ (rs ++ [x]) = busyStep part at_ (busyU part at_ rs) x := by unfold busyU; rw [List.foldl_append]; rfl

set_option maxRecDepth 100000 in
set_option maxHeartbeats 8000000 in
theorem busy_calls (A : Option Addr) (c : Nat) (l : List S46) (part at_ : Int) (w : World) (hl : l.length < 4611686018427387904) (hc : l.length ≤ c) (hC : Kd.C k46 w A l.length l) (r : Int) (hr : bits_Set_Len.f (busyU part at_ (rowsL l)) = some r) :
    Calls Tryd.prog 16 #[.slice A l.length c, .int .i64 part, .int .i64 at_] w fun e w' => e = .returned (.int .i64 r) ∧ Below w.heap.size w w' := by
  have f31 : Fence.wide.fn 31 := trivial
  have f39 : Fence.wide.fn 39 := trivial
  refine (callsIn_wide (n := 5)).1 ?_
  refine callsIn_of_wp_marks Tryd.func16 rfl trivial ?_ rfl
  simp only [Tryd.ntmps16, List.size_toArray, List.length_cons, List.length_nil, Nat.reduceAdd, Nat.reduceSub, Array.replicate_succ, Array.replicate_zero, List.push_toArray, List.append_toArray, List.nil_append, List.cons_append]
  have HC := Aside0.mk hC
  have HA := Aside0.mk (fun ad he h0 => row_lt hC ad he h0)
  have HR := Aside0.mk hr
  clear hC hr
  have n0 := blk_new w (.cells #[.int .i64 part] 3)
  have n1 := blk_new (w.alloc (.cells #[.int .i64 part] 3)) (.cells #[.int .i64 at_] 38)
  have n2 := blk_new ((w.alloc (.cells #[.int .i64 part] 3)).alloc (.cells #[.int .i64 at_] 38)) (.cells #[.int .u64 0] 44)
  have hb0 : Below w.heap.size w (((w.alloc (.cells #[.int .i64 part] 3)).alloc (.cells #[.int .i64 at_] 38)).alloc (.cells #[.int .u64 0] 44)) := (((Below.refl _ w).alloc (Nat.le_refl _) _).alloc (by simp only [World.size_alloc]; omega) _).alloc (by simp only [World.size_alloc]; omega) _
  have n0' := blk_alloc (blk_alloc n0 (.cells #[.int .i64 at_] 38)) (.cells #[.int .u64 0] 44)
  have n1' := blk_alloc n1 (.cells #[.int .u64 0] 44)
  simp only [World.size_alloc] at n1' n2
  obtain ⟨W0, hW0⟩ : ∃ W0, (((w.alloc (.cells #[.int .i64 part] 3)).alloc (.cells #[.int .i64 at_] 38)).alloc (.cells #[.int .u64 0] 44)) = W0 := ⟨_, rfl⟩
  have hs0 : W0.heap.size = w.heap.size + 3 := by rw [← hW0]; simp only [World.size_alloc]
  rw [hW0] at n0' n1' n2 hb0
  have HW0 := Aside0.mk hW0
  have HRW := Aside0.mk (fun W => rows_calls A l.length c W)
  clear n0 n1 hW0
  gi_wp2_with (first
    | (gi_at_call 31; rw [HW0.out]; refine (callsIn_wide.2 (HRW.out _)).mono ?_; rintro e w1 ⟨rfl, hw1⟩))
  have n3 := blk_new W0 (.cells #[.slice A l.length c] 22)
  have hb1 : Below W0.heap.size W0 (W0.alloc (.cells #[.slice A l.length c] 22)) := (Below.refl _ W0).alloc (Nat.le_refl _) _
  have hsz1 : w1.heap.size = w.heap.size + 4 := by rw [hw1, World.size_alloc, hs0]
  rw [← hw1] at n3 hb1 ⊢
  clear hw1 HW0 HRW
  have hb2 : Below w.heap.size w w1 := hb0.trans (hb1.mono (by omega))
  rw [hs0] at n3
  have c0 : Boxed w1 w.heap.size 3 (.int .i64 part) := (hb1.block _ (by omega)).trans n0'
  have c1 : Boxed w1 (w.heap.size + 1) 38 (.int .i64 at_) := (hb1.block _ (by omega)).trans n1'
  have c2 : Boxed w1 (w.heap.size + 1 + 1) 44 (.int .u64 0) := (hb1.block _ (by omega)).trans n2
  have HR1 := Aside0.mk (Kd.C_below HC.out hb2)
  refine wpIn_rangeFunc_ownH rfl (by omega) (gf := 56) (lb := #[.pointer (some ⟨w.heap.size + 3, 0, none⟩)]) rfl trivial (enters_of Tryd.func56 (by kernel_rfl) rfl)
    (rows_stops (5 - 1) (by omega) (w.heap.size + 3) A c l hl hc w1 (w.heap.size + 1 + 1) (by omega) (by omega) (fun ad he h0 => by have := HA.out ad he h0; omega) HR1.out ((blk_cell n3 0).trans rfl)) (fun h k => KeepB.trans h k) (fun W l o o' _ hl ho _ => KeepB.putObj W l o o' hl ho) (Below.refl _ _) (fun _ => rfl)
    (fun pre W => (Boxed W (w.heap.size + 1 + 1) 44 (.int .u64 (busyU part at_ pre)) ∧ Boxed W w.heap.size 3 (.int .i64 part) ∧ Boxed W (w.heap.size + 1) 38 (.int .i64 at_)) ∧ Below w.heap.size w W)
    (fun c pre W => False)
    (OwnFrom.and (Own.from (fun s A B row hs hg hr => ⟨boxed_own (β := Unit) _ _ (fun _ => _) () A B row hs.1 hg hr, boxed_own (β := Unit) _ _ (fun _ => _) () A B row hs.2.1 hg hr, boxed_own (β := Unit) _ _ (fun _ => _) () A B row hs.2.2 hg hr⟩) _) (ownFrom_below (Nat.le_refl _) (by omega)))
    (fun c => Own.from (fun s A B row hs hg hr => hs) _)
    ⟨⟨c2, c0, c1⟩, hb2⟩
    (fun x a' W => ∃ Bx, w.heap.size + 1 + 1 < Bx ∧ W.heap[Bx]? = some (.cells (rowC x) 77 (0, 0)) ∧ a' = { tmps := #[.slice A l.length c, .int .i64 part, .int .i64 at_, undef, .pointer (some ⟨w.heap.size, 0, none⟩), .pointer (some ⟨w.heap.size + 1, 0, none⟩), .int .i64 0, .pointer (some ⟨w.heap.size + 1 + 1, 0, none⟩), .pointer (some ⟨Bx, 0, none⟩), .slice A l.length c, .func (.func 56) #[] #[.pointer (some ⟨w.heap.size + 3, 0, none⟩)], rowV x, undef, undef, undef, undef, undef, undef, undef, undef, undef, undef, undef, undef, undef, undef, undef], defers := [] })
    (fun x a' => Own.from (fun s A B row hs hg hr => by
      obtain ⟨Bx, h1, h2, h3⟩ := hs
      exact ⟨Bx, h1, (hg.block Bx (blk_lt h2) (fun e => by obtain ⟨o, ho, hc⟩ := hr Bx e.symm; rw [h2] at ho; cases ho; cases hc)).trans h2, h3⟩) _) ?assign ?body ?done ?stop
  case assign =>
    rintro yl pre x W K ⟨⟨h2, h0, h1⟩, hB⟩ hK
    gi_wp2
    exact hK _ _ ((KeepsOthers.alloc _ _).from _) (KeepB.below ((Below.refl _ W).alloc (Nat.le_refl _) _)) ⟨⟨h2.alloc _, h0.alloc _, h1.alloc _⟩, hB.alloc hB.size _⟩ ⟨W.heap.size, h2.lt, blk_new W _, rfl⟩
  case body =>
    rintro yl pre x a' W hl2 ⟨r0, hr0⟩ ⟨⟨h2, h0, h1⟩, hB⟩ ⟨Bx, hBx, bX, rfl⟩ hlt
    have g37' : Fence.wide.fn 37 := trivial
    have g38' : Fence.wide.fn 38 := trivial
    have g37 : (Fence.wide.inRound yl).fn 37 := trivial
    have g38 : (Fence.wide.inRound yl).fn 38 := trivial
    have g0 := h0.cell
    have g1 := h1.cell
    have g2 := h2.cell
    have x0 : W.cell? ⟨Bx, 0, none⟩ = some (.int .i64 x.job) := (blk_cell bX 0).trans rfl
    have x1 : W.cell? ⟨Bx, 1, none⟩ = some (.int .i64 x.part) := (blk_cell bX 1).trans rfl
    have x2 : W.cell? ⟨Bx, 2, none⟩ = some (.int .u64 x.nodes) := (blk_cell bX 2).trans rfl
    have x3 : W.cell? ⟨Bx, 3, none⟩ = some (.int .i64 x.fr) := (blk_cell bX 3).trans rfl
    have x4 : W.cell? ⟨Bx, 4, none⟩ = some (.int .i64 x.to_) := (blk_cell bX 4).trans rfl
    have x5 : W.cell? ⟨Bx, 5, none⟩ = some (.int .i64 x.en) := (blk_cell bX 5).trans rfl
    have hsn := busyU_snoc part at_ pre x
    unfold busyStep at hsn
    obtain ⟨u, hu⟩ : ∃ u, busyU part at_ pre = u := ⟨_, rfl⟩
    rw [hu] at hsn g2 h2
    have HSN := Aside0.mk hsn
    have HHC := Aside0.mk (fun W => holds_calls x at_ W)
    have HOC := Aside0.mk (fun W => or_calls u x.nodes W)
    have H0 := Aside0.mk h0
    have H1 := Aside0.mk h1
    have H2 := Aside0.mk h2
    have HBX := Aside0.mk bX
    obtain ⟨hb, hhb⟩ : ∃ b, holdsB x at_ = b := ⟨_, rfl⟩
    rw [hhb] at HHC HSN
    clear hsn hu h0 h1 h2 bX hhb
    by_cases hp : x.part = part
    · have e1 : (x.part == part) = true := by simpa using hp
      have HP := Aside0.mk hp
      clear hp
      cases hb with
      | false =>
        gi_wp2_with (gi_at_call 37; refine (CallsIn.inRound yl (callsIn_wide.2 (HHC.out _))).mono ?_; rintro e w2 ⟨rfl, hb2'⟩)
        exact ⟨(keepsOthers_below hb2').from _, KeepB.below hb2', ⟨by rw [HSN.out, if_neg (by simp)]; exact blk_below H2.out hb2', blk_below H0.out hb2', blk_below H1.out hb2'⟩, hB.trans (hb2'.mono hB.size)⟩
      | true =>
        gi_wp2_with (first
          | (gi_at_call 37; refine (CallsIn.inRound yl (callsIn_wide.2 (HHC.out _))).mono ?_; rintro e w2 ⟨rfl, hb2'⟩; have y2 := below_cell1 hb2' x2; have k2 := below_cell1 hb2' g2)
          | (gi_at_call 38; refine (CallsIn.inRound yl (callsIn_wide.2 (HOC.out _))).mono ?_; rintro e w3 ⟨rfl, hb3⟩; have hb4 := below_step hb2' hb3; have k3 : Boxed w3 _ _ _ := blk_below H2.out hb4; have k4 := k3.cell; have k5 := k3.frozen))
        have h3 := k3.set (.int .u64 (Go.bits .or .u64 u x.nodes))
        have hA0 := blk_below H0.out hb4
        have hA1 := blk_below H1.out hb4
        have hN0 := Below.heap_setCell w3 ⟨w.heap.size + 1 + 1, 0, none⟩ (.int .u64 (Go.bits .or .u64 u x.nodes)) w.heap.size (by show w.heap.size ≠ w.heap.size + 1 + 1; omega)
        have hN1 := Below.heap_setCell w3 ⟨w.heap.size + 1 + 1, 0, none⟩ (.int .u64 (Go.bits .or .u64 u x.nodes)) (w.heap.size + 1) (by show w.heap.size + 1 ≠ w.heap.size + 1 + 1; omega)
        refine ⟨((keepsOthers_below hb4).trans (KeepsOthers.setCell _ _ _)).from _, fun k cs e f hk hkb hks => ?_, ⟨by rw [HSN.out, if_pos ⟨HP.out, trivial⟩]; exact h3, hN0.trans hA0, hN1.trans hA1⟩, ((hB.trans (hb4.mono hB.size)).setCell (p := ⟨w.heap.size + 1 + 1, 0, none⟩) (by show w.heap.size ≤ w.heap.size + 1 + 1; omega) _)⟩
        exact (Below.heap_setCell w3 ⟨w.heap.size + 1 + 1, 0, none⟩ _ k hks).trans ((hb4.block k (blk_lt hk)).trans hk)
    · have e1 : (x.part == part) = false := by simpa using hp
      have HP := Aside0.mk hp
      clear hp
      gi_wp2
      exact ⟨(keepsOthers_below (Below.refl _ _)).from _, fun k cs e f hk _ _ => hk, ⟨by rw [HSN.out, if_neg (fun h => HP.out h.1)]; exact H2.out, H0.out, H1.out⟩, hB⟩
  case done =>
    rintro D xs W hD hxs ⟨⟨h2, h0, h1⟩, hB⟩ hK
    rw [hxs] at h2
    have g2 := h2.cell
    have HLC : Aside0 (∀ W, Calls Tryd.prog 39 #[.int .u64 (busyU part at_ (rowsL l))] W fun e w' => e = .returned (.int .i64 r) ∧ Below W.heap.size W w') := ⟨fun W => (bits_Set_Len.calls _ r W HR.out).mono fun _ _ h => ⟨h.1, Drawn0.below h.2⟩⟩
    obtain ⟨u, hu⟩ : ∃ u, busyU part at_ (rowsL l) = u := ⟨_, rfl⟩
    rw [hu] at HLC g2
    clear hu h2 h0 h1
    gi_wp2_with (gi_at_call 39; refine (callsIn_wide.2 (HLC.out _)).mono ?_; rintro e w2 ⟨rfl, hb2'⟩)
    have hK2 := (keepsOthers_below hb2').same D _ hK rfl
    refine ⟨by simp, .inl ⟨_, _, rfl, run_takeDeferred hK2, ?_⟩⟩
    have hB3 := (hB.trans (hb2'.mono hB.size)).trans (belowK_b (w := w) (Nat.le_refl _) _ D _ (.deferred none) (by omega) hK2 rfl rfl)
    refine ⟨.int .i64 r, ?_, rfl, hB3⟩
    simp [results, Tryd.f16, go_sem]
  case stop =>
    rintro D c pre W hD hpre h
    exact h.elim
end Go.Proofs.YtdpomgfibjlehaaDoor.Tr

set_option linter.unusedVariables false
set_option linter.unusedSimpArgs false
/- slices.Backward over rows; trace.cell -/
namespace Go.Proofs.YtdpomgfibjlehaaDoor.Tr
open Go Go.Proofs Go.RowKit Go.Lib Go.Proofs.YtdpomgfibjlehaaDoorW.PrintWords Go.Proofs.YtdpomgfibjlehaaDoorW.PrintLast Go.Proofs.YtdpomgfibjlehaaDoorW.PrintMore Go.Proofs.YtdpomgfibjlehaaDoor.PTr
attribute [local go_sem] Oper.semAt_some

theorem infoR : (Tryd.prog.info? 77).map (fun i => (i.zero, i.size, i.bytes)) = some (some (.agg #[.int .i64 0, .int .i64 0, .int .u64 0, .int .i64 0, .int .i64 0, .int .i64 0]), 6, 48) := by kernel_rfl
def zR : TRow := ⟨0, 0, 0, 0, 0, 0⟩
def kR : Kd TRow := Kd.iso (Kd.pair (Kd.int .i64) (Kd.pair (Kd.int .i64) (Kd.pair (Kd.int .u64) (Kd.pair (Kd.int .i64) (Kd.pair (Kd.int .i64) (Kd.int .i64)))))) (fun x : TRow => (x.job, x.part, x.nodes, x.fr, x.to_, x.en))
theorem kR_open {w : World} {x : TRow} {cs : List Value} (h : kR.K w x cs) : cs = [.int .i64 x.job, .int .i64 x.part, .int .u64 x.nodes, .int .i64 x.fr, .int .i64 x.to_, .int .i64 x.en] := by
  obtain ⟨_, _, rfl, rfl, ⟨_, _, rfl, rfl, ⟨_, _, rfl, rfl, ⟨_, _, rfl, rfl, ⟨_, _, rfl, rfl, rfl⟩⟩⟩⟩⟩ := h
  exact rfl
theorem kR_openM {w : World} {base : Nat} {ok : Nat → Prop} {x : TRow} {cs : List Value} (h : kR.M w base ok x cs) : cs = [.int .i64 x.job, .int .i64 x.part, .int .u64 x.nodes, .int .i64 x.fr, .int .i64 x.to_, .int .i64 x.en] := by
  obtain ⟨_, _, rfl, rfl, ⟨_, _, rfl, rfl, ⟨_, _, rfl, rfl, ⟨_, _, rfl, rfl, ⟨_, _, rfl, rfl, rfl⟩⟩⟩⟩⟩ := h
  exact rfl
theorem kR_mk (w : World) (x : TRow) : kR.K w x [.int .i64 x.job, .int .i64 x.part, .int .u64 x.nodes, .int .i64 x.fr, .int .i64 x.to_, .int .i64 x.en] := ⟨[.int .i64 x.job], [.int .i64 x.part, .int .u64 x.nodes, .int .i64 x.fr, .int .i64 x.to_, .int .i64 x.en], rfl, rfl, ⟨[.int .i64 x.part], [.int .u64 x.nodes, .int .i64 x.fr, .int .i64 x.to_, .int .i64 x.en], rfl, rfl, ⟨[.int .u64 x.nodes], [.int .i64 x.fr, .int .i64 x.to_, .int .i64 x.en], rfl, rfl, ⟨[.int .i64 x.fr], [.int .i64 x.to_, .int .i64 x.en], rfl, rfl, ⟨[.int .i64 x.to_], [.int .i64 x.en], rfl, rfl, rfl⟩⟩⟩⟩⟩
theorem kR_mkM (w : World) (base : Nat) (ok : Nat → Prop) (x : TRow) : kR.M w base ok x [.int .i64 x.job, .int .i64 x.part, .int .u64 x.nodes, .int .i64 x.fr, .int .i64 x.to_, .int .i64 x.en] := ⟨[.int .i64 x.job], [.int .i64 x.part, .int .u64 x.nodes, .int .i64 x.fr, .int .i64 x.to_, .int .i64 x.en], rfl, rfl, ⟨[.int .i64 x.part], [.int .u64 x.nodes, .int .i64 x.fr, .int .i64 x.to_, .int .i64 x.en], rfl, rfl, ⟨[.int .u64 x.nodes], [.int .i64 x.fr, .int .i64 x.to_, .int .i64 x.en], rfl, rfl, ⟨[.int .i64 x.fr], [.int .i64 x.to_, .int .i64 x.en], rfl, rfl, ⟨[.int .i64 x.to_], [.int .i64 x.en], rfl, rfl, rfl⟩⟩⟩⟩⟩
def rdR (xs : List TRow) (i : Int) : TRow := xs.getD i.toNat zR
theorem at_R {w : World} {A : Option Addr} {n : Nat} {xs : List TRow} (h : Kd.C kR w A n xs) (i : Int) (h0 : 0 ≤ i) (h1 : i < n) : ∃ ad, A = some ad ∧ w.cell? (ad.add (i.toNat * 6)) = some (.int .i64 (rdR xs i).job) ∧ w.cell? ⟨(ad.add (i.toNat * 6)).block, (ad.add (i.toNat * 6)).off + 1, none⟩ = some (.int .i64 (rdR xs i).part) ∧ w.cell? ⟨(ad.add (i.toNat * 6)).block, (ad.add (i.toNat * 6)).off + 2, none⟩ = some (.int .u64 (rdR xs i).nodes) ∧ w.cell? ⟨(ad.add (i.toNat * 6)).block, (ad.add (i.toNat * 6)).off + 3, none⟩ = some (.int .i64 (rdR xs i).fr) ∧ w.cell? ⟨(ad.add (i.toNat * 6)).block, (ad.add (i.toNat * 6)).off + 4, none⟩ = some (.int .i64 (rdR xs i).to_) ∧ w.cell? ⟨(ad.add (i.toNat * 6)).block, (ad.add (i.toNat * 6)).off + 5, none⟩ = some (.int .i64 (rdR xs i).en) := by
  obtain ⟨ad, c, e, _, hK, hc0⟩ := Kd.C_get h zR i h0 h1
  have hc : ∀ j u, c[j]? = some u → w.cell? (ad.add (i.toNat * 6 + j)) = some u := hc0
  obtain rfl := kR_open hK
  exact ⟨ad, e, hc 0 _ rfl, by rw [← add_field _ _ 1 (by omega)]; exact hc 1 _ rfl, by rw [← add_field _ _ 2 (by omega)]; exact hc 2 _ rfl, by rw [← add_field _ _ 3 (by omega)]; exact hc 3 _ rfl, by rw [← add_field _ _ 4 (by omega)]; exact hc 4 _ rfl, by rw [← add_field _ _ 5 (by omega)]; exact hc 5 _ rfl⟩
theorem rdR_at (xs : List TRow) (i : Nat) (hi : i < xs.length) : rdR xs (i : Int) = xs[i] := by
  unfold rdR; rw [Int.toNat_natCast, List.getD_eq_getElem?_getD, List.getElem?_eq_getElem hi]; rfl
theorem CR_cells {W W' : World} {A : Option Addr} {n : Nat} {xs : List TRow} (hC : Kd.C kR W A n xs) (h : ∀ a v, (0 < n ∧ ∃ ad, A = some ad ∧ a.block = ad.block) → W.cell? a = some v → W'.cell? a = some v) : Kd.C kR W' A n xs := by
  obtain ⟨h1, h2, h3⟩ := hC
  refine ⟨h1, h2, fun h0 => ?_⟩
  obtain ⟨ad, e, hc⟩ := h3 h0
  refine ⟨ad, e, fun j x hx => ?_⟩
  obtain ⟨cs, q1, q2, q3⟩ := hc j x hx
  refine ⟨cs, q1, ?_, fun i u hu => h _ _ ⟨h0, ad, e, ?_⟩ (q3 i u hu)⟩
  · obtain rfl := kR_open q2; exact kR_mk W' x
  · unfold Addr.add; split <;> rfl
theorem rowR_lt {A : Option Addr} {xs : List TRow} {w : World} (hC : Kd.C kR w A xs.length xs) (ad : Addr) (hA : A = some ad) (h0 : 0 < xs.length) : ad.block < w.heap.size := by
  obtain ⟨ad', hA', q0, _⟩ := at_R hC 0 (by omega) (by omega)
  have e : ad' = ad := by rw [hA] at hA'; injection hA' with h; exact h.symm
  have := World.block_lt_of_cell? w _ q0
  rw [e, show (ad.add ((0 : Int).toNat * 6)).block = ad.block by unfold Addr.add; split <;> rfl] at this
  exact this

/-- the last k of them, the last one first, each with its place -/
def backTo (xs : List TRow) (k : Nat) : List (Int × TRow) := (List.range k).map fun j => (((xs.length - 1 - j : Nat) : Int), xs.getD (xs.length - 1 - j) zR)
def backL (xs : List TRow) : List (Int × TRow) := backTo xs xs.length
theorem backTo_succ (xs : List TRow) (k : Nat) : backTo xs (k + 1) = backTo xs k ++ [(((xs.length - 1 - k : Nat) : Int), xs.getD (xs.length - 1 - k) zR)] := by
  unfold backTo; rw [List.range_succ, List.map_append]; rfl
theorem backTo_length (xs : List TRow) (k : Nat) : (backTo xs k).length = k := by unfold backTo; simp
theorem backTo_prefix (xs : List TRow) (k : Nat) (n : Nat) (h : k ≤ n) : backTo xs k <+: backTo xs n := by
  induction n with
  | zero =>
    obtain rfl : k = 0 := by omega
    exact List.prefix_refl _
  | succ n ih =>
    rcases Nat.lt_or_ge n k with h1 | h1
    · obtain rfl : k = n + 1 := by omega
      exact List.prefix_refl _
    · rw [backTo_succ]; exact (ih h1).trans (List.prefix_append _ _)

set_option maxRecDepth 100000 in
set_option maxHeartbeats 16000000 in
theorem back1_in (n : Nat) (hn : 1 ≤ n) (yl b1 : Nat) (A : Option Addr) (c : Nat) (xs : List TRow) (hl : xs.length < 4611686018427387904) (hc : xs.length ≤ c) (J Jx : List (Int × TRow) → World → Prop) (Kp : World → World → Prop) (W0 : World)
    (hJ : ∀ pre A B, Below A.heap.size A B → J pre A → J pre B)
    (hY : ∀ pre (x : Int × TRow) W, J pre W → pre.length < (backL xs).length → YieldAt Fence.wide (n - 1) Tryd.prog yl #[.int .i64 x.1, rowV x.2] W fun e W' =>
      (e = .returned (.bool true) ∧ J (pre ++ [x]) W' ∧ Kp W W') ∨ (e = .returned (.bool false) ∧ Jx (pre ++ [x]) W'))
    (hK : ∀ W W', Kp W W' → ∀ a v, (a.block = b1 ∨ (0 < xs.length ∧ ∃ ad, A = some ad ∧ a.block = ad.block)) → W.cell? a = some v → W'.cell? a = some v)
    (hC : Kd.C kR W0 A xs.length xs) (c1 : W0.cell? ⟨b1, 0, none⟩ = some (.slice A xs.length c)) (h0 : J [] W0) :
    CallsIn Fence.wide n Tryd.prog 68 #[.func (.yield yl) #[] #[], .pointer (some ⟨b1, 0, none⟩)] W0 fun e W' => (∃ v, e = .returned v) ∧
      ((∃ ys, ys = backL xs ∧ J ys W') ∨ (∃ pre, pre <+: backL xs ∧ Jx pre W')) := by
  have hu77 := Tryd.underlying77
  have HH0 := Aside0.mk h0
  have HC0 := Aside0.mk hC
  clear h0 hC
  refine callsIn_of_wp Tryd.func68 rfl trivial ?_ rfl
  simp only [Tryd.ntmps68, List.size_toArray, List.length_cons, List.length_nil, Nat.reduceAdd, Nat.reduceSub, Array.replicate_succ, Array.replicate_zero, List.push_toArray, List.append_toArray, List.nil_append, List.cons_append]
  gi_wp2
  have HC1 := Aside0.mk c1
  clear c1
  gi_loopw [3] (fun v3 wr => ∃ k : Nat, v3 = .int .i64 ((xs.length : Int) - 1 - (k : Int)) ∧ k ≤ xs.length ∧ Kd.C kR wr A xs.length xs ∧ wr.cell? ⟨b1, 0, none⟩ = some (.slice A xs.length c) ∧ J (backTo xs k) wr)
    (fun v3 wr => match v3 with | .int _ i => (i + 1).toNat | _ => 0)
  case atStart => exact ⟨0, by rw [show ((xs.length : Int) - 1 - ((0 : Nat) : Int)) = (xs.length : Int) - 1 by omega], Nat.zero_le _, HC0.out, HC1.out, HH0.out⟩
  case round =>
    obtain ⟨k, rfl, hk, hCr, hc1, hJr⟩ := hrel
    have HJr := Aside0.mk hJr
    have HCr := Aside0.mk hCr
    clear hJr hCr HC0 HC1 HH0
    by_cases hlt : k < xs.length
    · obtain ⟨i, hi⟩ : ∃ i : Nat, xs.length - 1 - k = i := ⟨_, rfl⟩
      have hz : (xs.length : Int) - 1 - (k : Int) = (i : Int) := by omega
      have hil : i < xs.length := by omega
      have hil2 : (i : Int) < (xs.length : Int) := by omega
      rw [hz]
      have e1 : decide ((i : Int) ≥ 0) = true := decide_eq_true (by omega)
      obtain ⟨ad, hA, q0, q1, q2, q3, q4, q5⟩ := at_R HCr.out (i : Int) (by omega) (by omega)
      rw [rdR_at xs i hil] at q0 q1 q2 q3 q4 q5
      rw [Int.toNat_natCast] at q0 q1 q2 q3 q4 q5
      have hsn := backTo_succ xs k
      rw [hi, List.getD_eq_getElem?_getD, List.getElem?_eq_getElem hil, Option.getD_some] at hsn
      obtain ⟨x, hx⟩ : ∃ x, xs[i] = x := ⟨_, rfl⟩
      rw [hx] at q0 q1 q2 q3 q4 q5 hsn
      have hw1 : IntKind.i64.wrap ((i : Int) - 1) = (i : Int) - 1 := by rw [IntKind.wrap_i64]; omega
      have HSN := Aside0.mk hsn
      have HZ := Aside0.mk hz
      have HI := Aside0.mk hi
      subst hA
      obtain ⟨fn, tmps, assign, body, hyy, hRR⟩ := hY _ ((i : Int), x) _ HJr.out (by rw [backTo_length]; unfold backL; rw [backTo_length]; omega)
      (try dsimp only at hyy)
      have HRR := Aside0.mk hRR
      clear hsn hx hz hi hRR
      gi_wp2
      refine HRR.out.mono ?_
      rintro e w6 (⟨rfl, hJ6, hk6⟩ | ⟨rfl, hJx6⟩)
      · have HK6 := Aside0.mk (hK _ _ hk6)
        have HJ6 := Aside0.mk hJ6
        have HC1 := Aside0.mk hc1
        clear hk6 hJ6 hc1 hyy
        gi_wp2
        go_roundw
        case rel =>
          refine ⟨k + 1, ?_, by omega, CR_cells HCr.out (fun a v ha hv => HK6.out a v (.inr ha) hv), HK6.out _ _ (.inl rfl) HC1.out, by rw [HSN.out]; exact HJ6.out⟩
          have := HZ.out
          rw [show (xs.length : Int) - 1 - ((k + 1 : Nat) : Int) = (i : Int) - 1 by omega]
        case measure => (first | (simp; done) | (simp; omega))
      · have HJX := Aside0.mk hJx6
        clear hJx6 hyy
        gi_wp2
        (try simp only [Exit.noGoto_normal, Exit.noGoto_exit, Exit.noGoto_ret])
        refine bodyPost_ret (results_none rfl _ _ _) rfl ?_
        refine ⟨⟨_, rfl⟩, .inr ⟨_, ?_, HJX.out⟩⟩
        have hp := backTo_prefix xs (k + 1) xs.length hlt
        rw [HSN.out] at hp
        exact hp
    · obtain rfl : k = xs.length := by omega
      have hz : (xs.length : Int) - 1 - (xs.length : Int) = -1 := by omega
      rw [hz]
      have e1 : decide ((-1 : Int) ≥ 0) = false := by decide
      clear hz
      gi_wp2
      (try simp only [Exit.noGoto_normal, Exit.noGoto_exit, Exit.noGoto_ret])
      refine bodyPost_end (results_none rfl _ _ _) rfl ?_
      exact ⟨⟨_, rfl⟩, .inl ⟨_, rfl, HJr.out⟩⟩
theorem back_stops (n : Nat) (hn : 1 ≤ n) (b1 : Nat) (A : Option Addr) (c : Nat) (xs : List TRow) (hl : xs.length < 4611686018427387904) (hc : xs.length ≤ c) (w : World) (s : Nat) (hs : s < w.heap.size) (hs1 : b1 ≠ s) (hsA : ∀ ad, A = some ad → 0 < xs.length → ad.block ≠ s)
    (hC : Kd.C kR w A xs.length xs) (c1 : w.cell? ⟨b1, 0, none⟩ = some (.slice A xs.length c)) :
    SeqStopsK Fence.wide n Tryd.prog 68 #[.pointer (some ⟨b1, 0, none⟩)] (fun x : Int × TRow => #[.int .i64 x.1, rowV x.2]) (KeepB w.heap.size s)
      (fun ys => ys = backL xs) (fun pre => pre <+: backL xs) (backL xs).length w := fun yl J Jx W hW hJ _ hY h0 =>
  back1_in n hn yl b1 A c xs hl hc J Jx (KeepB w.heap.size s) W (fun pre A B hAB hA => hJ pre A B none hA (grown_of_below hAB) (fun r e => by cases e)) hY
    (fun X Y hk a v ha hv => by
      have hb1 : b1 < w.heap.size := World.block_lt_of_cell? w ⟨b1, 0, none⟩ c1
      rcases ha with ha | ⟨h0, ad, hA, ha⟩
      · exact hk.cell hv (by omega) (by omega)
      · have := rowR_lt hC ad hA h0
        exact hk.cell hv (by omega) (fun h => hsA ad hA h0 (by omega)))
    (Kd.C_below hC hW) (below_cell1 hW c1) h0
theorem back_calls (A : Option Addr) (n c : Nat) (w : World) : Calls Tryd.prog 59 #[.slice A n c] w fun e w' => e = .returned (.func (.func 68) #[] #[.pointer (some ⟨w.heap.size, 0, none⟩)]) ∧ w' = w.alloc (.cells #[.slice A n c] 70) := by
  go_enter Tryd.func59, Tryd.ntmps59
  go_wp2
  go_ret
  exact ⟨rfl, rfl⟩
end Go.Proofs.YtdpomgfibjlehaaDoor.Tr

set_option linter.unusedVariables false
set_option linter.unusedSimpArgs false
/- trace.cell -/
namespace Go.Proofs.YtdpomgfibjlehaaDoor.Tr
open Go Go.Proofs Go.RowKit Go.Lib Go.Proofs.YtdpomgfibjlehaaDoorW.PrintWords Go.Proofs.YtdpomgfibjlehaaDoorW.PrintLast Go.Proofs.YtdpomgfibjlehaaDoorW.PrintMore Go.Proofs.YtdpomgfibjlehaaDoor.PTr
attribute [local go_sem] Oper.semAt_some

def hasB (u n : Int) : Bool := (bits_Set_Has.f u n).getD false
theorem has_f (u n : Int) : bits_Set_Has.f u n = some (hasB u n) := by
  unfold hasB bits_Set_Has.f bits_bit.f
  split
  · rfl
  · split
    · rfl
    · rw [if_pos (by omega)]; rfl
theorem has_calls (u n : Int) (w : World) : Calls Tryd.prog 60 #[.int .u64 u, .int .i64 n] w fun e w' => e = .returned (.bool (hasB u n)) ∧ Below w.heap.size w w' :=
  (bits_Set_Has.calls u n _ w (has_f u n)).mono fun _ _ h => ⟨h.1, Drawn0.below h.2⟩
/-- a row is drawn -/
def hitB (n at_ : Int) (x : Int × TRow) : Bool := holdsB x.2 at_ && hasB x.2.nodes n
def chrO (n : Option (Int × TRow)) : Int := match n with
  | none => 46
  | some x => 48 + Int.tmod x.2.job 10
def cellC (xs : List TRow) (n at_ : Int) : Int := if at_ < 0 ∨ at_ ≥ 1099511627776 then 32 else chrO ((backL xs).find? (hitB n at_))
theorem find_none (p : Int × TRow → Bool) (l : List (Int × TRow)) (h : ∀ x ∈ l, p x = false) : l.find? p = none := List.find?_eq_none.2 (fun x hx => by rw [h x hx]; decide)
theorem find_first (p : Int × TRow → Bool) (pre r : List (Int × TRow)) (x : Int × TRow) (h : ∀ y ∈ pre, p y = false) (hx : p x = true) : (pre ++ [x] ++ r).find? p = some x := by
  rw [List.append_assoc, List.find?_append, find_none p pre h]
  simp [hx]

set_option maxRecDepth 100000 in
set_option maxHeartbeats 16000000 in
theorem tmod_ten (a : Int) : -10 < Int.tmod a 10 ∧ Int.tmod a 10 < 10 := by
  rcases Int.le_total 0 a with h | h
  · rw [Int.tmod_eq_emod_of_nonneg h]; omega
  · have e : Int.tmod a 10 = -(Int.tmod (-a) 10) := by rw [Int.neg_tmod, Int.neg_neg]
    rw [e, Int.tmod_eq_emod_of_nonneg (by omega)]; omega
theorem cell_blank (A : Option Addr) (m c : Nat) (n at_ : Int) (w : World) (hx : at_ < 0 ∨ at_ ≥ 1099511627776) :
    Calls Tryd.prog 33 #[.slice A m c, .int .i64 n, .int .i64 at_] w fun e w' => e = .returned (.int .u8 32) ∧ Below w.heap.size w w' := by
  have hB : Below w.heap.size w (((w.alloc (.cells #[.int .i64 n] 3)).alloc (.cells #[.int .i64 at_] 38)).alloc (.cells #[.int .u8 32] 5)) := (((Below.refl _ w).alloc (Nat.le_refl _) _).alloc (by simp only [World.size_alloc]; omega) _).alloc (by simp only [World.size_alloc]; omega) _
  by_cases h1 : at_ < 0
  · have e1 : decide (at_ < 0) = true := decide_eq_true h1
    go_enter Tryd.func33, Tryd.ntmps33
    go_wp2
    exact bodyPost_ret (v := .int .u8 32) (by simp [results, Tryd.f33, go_sem]) rfl ⟨rfl, hB⟩
  · have e1 : decide (at_ < 0) = false := decide_eq_false h1
    have e2 : decide (at_ ≥ 1099511627776) = true := decide_eq_true (by omega)
    go_enter Tryd.func33, Tryd.ntmps33
    go_wp2
    exact bodyPost_ret (v := .int .u8 32) (by simp [results, Tryd.f33, go_sem]) rfl ⟨rfl, hB⟩
set_option maxRecDepth 100000 in
set_option maxHeartbeats 16000000 in
theorem cell_calls (A : Option Addr) (c : Nat) (xs : List TRow) (n at_ : Int) (w : World) (hl : xs.length < 4611686018427387904) (hc : xs.length ≤ c) (hC : Kd.C kR w A xs.length xs) :
    Calls Tryd.prog 33 #[.slice A xs.length c, .int .i64 n, .int .i64 at_] w fun e w' => e = .returned (.int .u8 (cellC xs n at_)) ∧ Below w.heap.size w w' := by
  have f59 : Fence.wide.fn 59 := trivial
  by_cases hno : at_ < 0 ∨ at_ ≥ 1099511627776
  · have hcc : cellC xs n at_ = 32 := by unfold cellC; rw [if_pos hno]
    rw [hcc]
    exact cell_blank A _ c n at_ w hno
  refine (callsIn_wide (n := 6)).1 ?_
  refine callsIn_of_wp_marks Tryd.func33 rfl trivial ?_ rfl
  simp only [Tryd.ntmps33, List.size_toArray, List.length_cons, List.length_nil, Nat.reduceAdd, Nat.reduceSub, Array.replicate_succ, Array.replicate_zero, List.push_toArray, List.append_toArray, List.nil_append, List.cons_append]
  have HC := Aside0.mk hC
  have HA := Aside0.mk (fun ad he h0 => rowR_lt hC ad he h0)
  clear hC
  have n0 := blk_new w (.cells #[.int .i64 n] 3)
  have n1 := blk_new (w.alloc (.cells #[.int .i64 n] 3)) (.cells #[.int .i64 at_] 38)
  have n2 := blk_new ((w.alloc (.cells #[.int .i64 n] 3)).alloc (.cells #[.int .i64 at_] 38)) (.cells #[.int .u8 0] 5)
  have hb0 : Below w.heap.size w (((w.alloc (.cells #[.int .i64 n] 3)).alloc (.cells #[.int .i64 at_] 38)).alloc (.cells #[.int .u8 0] 5)) := (((Below.refl _ w).alloc (Nat.le_refl _) _).alloc (by simp only [World.size_alloc]; omega) _).alloc (by simp only [World.size_alloc]; omega) _
  have n0' := blk_alloc (blk_alloc n0 (.cells #[.int .i64 at_] 38)) (.cells #[.int .u8 0] 5)
  have n1' := blk_alloc n1 (.cells #[.int .u8 0] 5)
  simp only [World.size_alloc] at n1' n2
  obtain ⟨W0, hW0⟩ : ∃ W0, (((w.alloc (.cells #[.int .i64 n] 3)).alloc (.cells #[.int .i64 at_] 38)).alloc (.cells #[.int .u8 0] 5)) = W0 := ⟨_, rfl⟩
  have hs0 : W0.heap.size = w.heap.size + 3 := by rw [← hW0]; simp only [World.size_alloc]
  rw [hW0] at n0' n1' n2 hb0
  have HW0 := Aside0.mk hW0
  have HRW := Aside0.mk (fun W => back_calls A xs.length c W)
  clear n0 n1 hW0
  by_cases hx : at_ < 0 ∨ at_ ≥ 1099511627776
  · have hcc : cellC xs n at_ = 32 := by unfold cellC; rw [if_pos hx]
    rw [hcc]
    exact absurd hx hno
  · have hcc : cellC xs n at_ = chrO ((backL xs).find? (hitB n at_)) := by unfold cellC; rw [if_neg hx]
    have e1 : decide (at_ < 0) = false := decide_eq_false (fun h => hx (.inl h))
    have e2 : decide (at_ ≥ 1099511627776) = false := decide_eq_false (fun h => hx (.inr h))
    rw [hcc]
    clear hx hcc
    have ge1 : W0.cell? ⟨w.heap.size + 1, 0, none⟩ = some (.int .i64 at_) := (blk_cell n1' 0).trans rfl
    gi_wp2_with (first
      | (gi_at_call 59; rw [HW0.out]; refine (callsIn_wide.2 (HRW.out _)).mono ?_; rintro e w1 ⟨rfl, hw1⟩))
    have n3 := blk_new W0 (.cells #[.slice A xs.length c] 70)
    have hb1 : Below W0.heap.size W0 (W0.alloc (.cells #[.slice A xs.length c] 70)) := (Below.refl _ W0).alloc (Nat.le_refl _) _
    have hsz1 : w1.heap.size = w.heap.size + 4 := by rw [hw1, World.size_alloc, hs0]
    rw [← hw1] at n3 hb1 ⊢
    clear hw1 HW0 HRW ge1
    have hb2 : Below w.heap.size w w1 := hb0.trans (hb1.mono (by omega))
    rw [hs0] at n3
    have c0 : Boxed w1 w.heap.size 3 (.int .i64 n) := (hb1.block _ (by omega)).trans n0'
    have c1 : Boxed w1 (w.heap.size + 1) 38 (.int .i64 at_) := (hb1.block _ (by omega)).trans n1'
    have c2 : Boxed w1 (w.heap.size + 1 + 1) 5 (.int .u8 0) := (hb1.block _ (by omega)).trans n2
    have HR1 := Aside0.mk (Kd.C_below HC.out hb2)
    refine wpIn_rangeFunc_ownH rfl (by omega) (gf := 68) (lb := #[.pointer (some ⟨w.heap.size + 3, 0, none⟩)]) rfl trivial (enters_of Tryd.func68 (by kernel_rfl) rfl)
      (back_stops (6 - 1) (by omega) (w.heap.size + 3) A c xs hl hc w1 (w.heap.size + 1 + 1) (by omega) (by omega) (fun ad he h0 => by have := HA.out ad he h0; omega) HR1.out ((blk_cell n3 0).trans rfl)) (fun h k => KeepB.trans h k) (fun W l o o' _ hl ho _ => KeepB.putObj W l o o' hl ho) (Below.refl _ _) (fun _ => rfl)
      (fun pre W => ((∀ x ∈ pre, hitB n at_ x = false) ∧ Boxed W (w.heap.size + 1 + 1) 5 (.int .u8 0) ∧ Boxed W w.heap.size 3 (.int .i64 n) ∧ Boxed W (w.heap.size + 1) 38 (.int .i64 at_)) ∧ Below w.heap.size w W)
      (fun c pre W => (∃ pre0 x, c = .ret ∧ pre = pre0 ++ [x] ∧ (∀ x ∈ pre0, hitB n at_ x = false) ∧ hitB n at_ x = true ∧ Boxed W (w.heap.size + 1 + 1) 5 (.int .u8 (48 + Int.tmod x.2.job 10))) ∧ Below w.heap.size w W)
      (OwnFrom.and (Own.from (fun s A B row hs hg hr => ⟨hs.1, boxed_own (β := Unit) _ _ (fun _ => _) () A B row hs.2.1 hg hr, boxed_own (β := Unit) _ _ (fun _ => _) () A B row hs.2.2.1 hg hr, boxed_own (β := Unit) _ _ (fun _ => _) () A B row hs.2.2.2 hg hr⟩) _) (ownFrom_below (Nat.le_refl _) (by omega)))
      (fun c => OwnFrom.and (Own.from (fun s A B row hs hg hr => by
        obtain ⟨pre0, x, h1, h2, h3, h4, hs⟩ := hs
        exact ⟨pre0, x, h1, h2, h3, h4, boxed_own (β := Unit) _ _ (fun _ => _) () A B row hs hg hr⟩) _) (ownFrom_below (Nat.le_refl _) (by omega)))
      ⟨⟨fun x hx => by (cases hx), c2, c0, c1⟩, hb2⟩
      (fun x a' W => ∃ Bx, w.heap.size + 1 + 1 < Bx ∧ W.heap[Bx]? = some (.cells (rowC x.2) 77 (0, 0)) ∧ a' = { tmps := #[.slice A xs.length c, .int .i64 n, .int .i64 at_, undef, .pointer (some ⟨w.heap.size, 0, none⟩), .pointer (some ⟨w.heap.size + 1, 0, none⟩), .pointer (some ⟨w.heap.size + 1 + 1, 0, none⟩), undef, .pointer (some ⟨Bx, 0, none⟩), undef, .int .i64 at_, .bool false, .bool false, .int .i64 at_, .bool false, .bool false, .slice A xs.length c, .func (.func 68) #[] #[.pointer (some ⟨w.heap.size + 3, 0, none⟩)], .int .i64 x.1, rowV x.2, undef, undef, undef, undef, undef, undef, undef, undef, undef, undef, undef, undef, undef, undef, undef], defers := [] })
      (fun x a' => Own.from (fun s A B row hs hg hr => by
        obtain ⟨Bx, h1, h2, h3⟩ := hs
        exact ⟨Bx, h1, (hg.block Bx (blk_lt h2) (fun e => by obtain ⟨o, ho, hc⟩ := hr Bx e.symm; rw [h2] at ho; cases ho; cases hc)).trans h2, h3⟩) _) ?assign ?body ?done ?stop
    case assign =>
      rintro yl pre x W K ⟨⟨hp, h2, h0, h1⟩, hB⟩ hK
      gi_wp2
      exact hK _ _ ((KeepsOthers.alloc _ _).from _) (KeepB.below ((Below.refl _ W).alloc (Nat.le_refl _) _)) ⟨⟨hp, h2.alloc _, h0.alloc _, h1.alloc _⟩, hB.alloc hB.size _⟩ ⟨W.heap.size, h2.lt, blk_new W _, rfl⟩
    case body =>
      rintro yl pre x a' W hl2 ⟨r0, hr0⟩ ⟨⟨hp, h2, h0, h1⟩, hB⟩ ⟨Bx, hBx, bX, rfl⟩ hlt
      have g37' : Fence.wide.fn 37 := trivial
      have g60' : Fence.wide.fn 60 := trivial
      have g37 : (Fence.wide.inRound yl).fn 37 := trivial
      have g60 : (Fence.wide.inRound yl).fn 60 := trivial
      have g0 := h0.cell
      have g1 := h1.cell
      obtain ⟨i, x⟩ := x
      have x0 : W.cell? ⟨Bx, 0, none⟩ = some (.int .i64 x.job) := (blk_cell bX 0).trans rfl
      have x1 : W.cell? ⟨Bx, 1, none⟩ = some (.int .i64 x.part) := (blk_cell bX 1).trans rfl
      have x2 : W.cell? ⟨Bx, 2, none⟩ = some (.int .u64 x.nodes) := (blk_cell bX 2).trans rfl
      have x3 : W.cell? ⟨Bx, 3, none⟩ = some (.int .i64 x.fr) := (blk_cell bX 3).trans rfl
      have x4 : W.cell? ⟨Bx, 4, none⟩ = some (.int .i64 x.to_) := (blk_cell bX 4).trans rfl
      have x5 : W.cell? ⟨Bx, 5, none⟩ = some (.int .i64 x.en) := (blk_cell bX 5).trans rfl
      have hit : hitB n at_ (i, x) = (holdsB x at_ && hasB x.nodes n) := rfl
      have HHC := Aside0.mk (fun W => holds_calls x at_ W)
      have HSC := Aside0.mk (fun W => has_calls x.nodes n W)
      obtain ⟨b, hb⟩ : ∃ b, holdsB x at_ = b := ⟨_, rfl⟩
      obtain ⟨b', hb'⟩ : ∃ b, hasB x.nodes n = b := ⟨_, rfl⟩
      rw [hb] at HHC hit
      rw [hb'] at HSC hit
      have HIT := Aside0.mk hit
      have H0 := Aside0.mk h0
      have H1 := Aside0.mk h1
      have H2 := Aside0.mk h2
      have HBX := Aside0.mk bX
      have HP := Aside0.mk hp
      clear hit h0 h1 h2 bX hb hb' hp
      cases b with
      | false =>
        gi_wp2_with (gi_at_call 37; refine (CallsIn.inRound yl (callsIn_wide.2 (HHC.out _))).mono ?_; rintro e w2 ⟨rfl, hb2'⟩)
        refine ⟨(keepsOthers_below hb2').from _, KeepB.below hb2', ⟨fun y hy => ?_, blk_below H2.out hb2', blk_below H0.out hb2', blk_below H1.out hb2'⟩, hB.trans (hb2'.mono hB.size)⟩
        rcases List.mem_append.1 hy with hy | hy
        · exact HP.out y hy
        · rw [List.mem_singleton] at hy; subst hy; exact HIT.out
      | true =>
        cases b' with
        | false =>
          gi_wp2_with (first
            | (gi_at_call 37; refine (CallsIn.inRound yl (callsIn_wide.2 (HHC.out _))).mono ?_; rintro e w2 ⟨rfl, hb2'⟩; have y2 := below_cell1 hb2' x2; have k0 := below_cell1 hb2' g0)
            | (gi_at_call 60; refine (CallsIn.inRound yl (callsIn_wide.2 (HSC.out _))).mono ?_; rintro e w3 ⟨rfl, hb3⟩; have hb4 := below_step hb2' hb3))
          refine ⟨(keepsOthers_below hb4).from _, KeepB.below hb4, ⟨fun y hy => ?_, blk_below H2.out hb4, blk_below H0.out hb4, blk_below H1.out hb4⟩, hB.trans (hb4.mono hB.size)⟩
          rcases List.mem_append.1 hy with hy | hy
          · exact HP.out y hy
          · rw [List.mem_singleton] at hy; subst hy; exact HIT.out
        | true =>
          obtain ⟨d, hd⟩ : ∃ d, Int.tmod x.job 10 = d := ⟨_, rfl⟩
          have hd1 : -10 < d ∧ d < 10 := by rw [← hd]; exact tmod_ten x.job
          have hw1 : IntKind.i64.wrap (48 + d) = 48 + d := by rw [IntKind.wrap_i64]; omega
          have hw2 : IntKind.u8.wrap (48 + d) = 48 + d := by rw [IntKind.wrap_u8]; omega
          have HD := Aside0.mk hd
          gi_wp2_with (first
            | (gi_at_call 37; refine (CallsIn.inRound yl (callsIn_wide.2 (HHC.out _))).mono ?_; rintro e w2 ⟨rfl, hb2'⟩; have y2 := below_cell1 hb2' x2; have k0 := below_cell1 hb2' g0)
            | (gi_at_call 60; refine (CallsIn.inRound yl (callsIn_wide.2 (HSC.out _))).mono ?_; rintro e w3 ⟨rfl, hb3⟩; have hb4 := below_step hb2' hb3; have z0 := below_cell1 hb4 x0; have k3 : Boxed w3 _ _ _ := blk_below H2.out hb4; have k4 := k3.cell; have k5 := k3.frozen))
          refine ⟨((keepsOthers_below hb4).trans (KeepsOthers.setCell _ _ _)).from _, ⟨pre, (i, x), rfl, rfl, HP.out, HIT.out, ?_⟩, ((hB.trans (hb4.mono hB.size)).setCell (p := ⟨w.heap.size + 1 + 1, 0, none⟩) (by show w.heap.size ≤ w.heap.size + 1 + 1; omega) _)⟩
          show Boxed _ _ _ (.int .u8 (48 + Int.tmod x.job 10))
          rw [HD.out]
          exact k3.set _
    case done =>
      rintro D ys W hD hys ⟨⟨hp, h2, h0, h1⟩, hB⟩ hK
      have he : chrO ((backL xs).find? (hitB n at_)) = 46 := by rw [find_none _ _ (by rw [← hys]; exact hp)]; rfl
      have HE := Aside0.mk he
      have gc := h2.cell
      have gf := h2.frozen
      clear he
      gi_wp2
      have hK2 := (KeepsOthers.setCell W ⟨w.heap.size + 1 + 1, 0, none⟩ (.int .u8 46)).same D _ hK rfl
      refine ⟨by simp, .inl ⟨_, _, rfl, run_takeDeferred hK2, ?_⟩⟩
      have hx2 := h2.set (.int .u8 46)
      have hx3 := cell_kept hx2.cell (grownBy_putObj' _ D (.deferred none)) (fun r e => by cases e; exact ⟨_, hK2, rfl⟩)
      have hB3 := (hB.setCell (p := ⟨w.heap.size + 1 + 1, 0, none⟩) (by show w.heap.size ≤ w.heap.size + 1 + 1; omega) (.int .u8 46)).trans (belowK_b (w := w) (Nat.le_refl _) _ D _ (.deferred none) (by omega) hK2 rfl rfl)
      refine ⟨.int .u8 46, ?_, by rw [HE.out], hB3⟩
      simp [results, Tryd.f33, go_sem, hx3]
    case stop =>
      rintro D c pre W hD hpre ⟨⟨pre0, x, rfl, rfl, hp, hx, hbx⟩, hB⟩ hK
      have gc := hbx.cell
      have he : chrO ((backL xs).find? (hitB n at_)) = 48 + Int.tmod x.2.job 10 := by
        obtain ⟨r, hr⟩ := hpre
        rw [← hr, find_first _ _ _ _ hp hx]; rfl
      have HE := Aside0.mk he
      obtain ⟨d, hd⟩ : ∃ d, 48 + Int.tmod x.2.job 10 = d := ⟨_, rfl⟩
      rw [hd] at gc HE
      clear he hd hbx
      gi_wp2
      refine ⟨by simp, .inl ⟨_, _, rfl, run_takeDeferred hK, ?_⟩⟩
      have hx3 := cell_kept gc (grownBy_putObj' _ D (.deferred none)) (fun r e => by cases e; exact ⟨_, hK, rfl⟩)
      have hB3 := hB.trans (belowK_b (w := w) (Nat.le_refl _) _ D _ (.deferred none) (by omega) hK rfl rfl)
      refine ⟨.int .u8 d, ?_, by rw [HE.out], hB3⟩
      simp [results, Tryd.f33, go_sem, hx3]
end Go.Proofs.YtdpomgfibjlehaaDoor.Tr
