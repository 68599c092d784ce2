/- Known blocks: a walk that lists what it knows of memory. Conditions: those that each theorem states. -/
import Derived.Test.YtkbjlaknhedekaaDoorPAuditNamesx0
import Derived.Laws.Tables
import Derived.Laws.Rows
import Derived.Laws.CopyRow
import Derived.Shelf.Abstract
import Derived.OrdersHeld
set_option linter.unusedVariables false
set_option linter.unusedSimpArgs false
namespace Go.Proofs.YtkbjlaknhedekaaDoor.Sm
open Go Go.Proofs Go.RowKit Go.Proofs.YtkbjlaknhedekaaDoorW.PrintWords Go.Proofs.YtkbjlaknhedekaaDoorW.PrintLast Go.Proofs.YtkbjlaknhedekaaDoorW.PrintMore
/-- known blocks: number, cells, type -/
abbrev Bs := List (Nat × Array Value × TypeId)
structure HG (n : Nat) (w : World) (l : Bs) (W : World) : Prop where
  below : Below n w W
  all : ∀ x ∈ l, n ≤ x.1 ∧ W.heap[x.1]? = some (.cells x.2.1 x.2.2 (0, 0))
  apart : l.Pairwise (fun x y => x.1 ≠ y.1)
  le : n ≤ w.heap.size
  kept : ∀ k, k < w.heap.size → (∀ x ∈ l, x.1 ≠ k) → W.heap[k]? = w.heap[k]?
/-- known blocks, all of the call's own -/
abbrev HB (w : World) (l : Bs) (W : World) : Prop := HG w.heap.size w l W
/-- blocks that stay as they are -/
def HS (l : Bs) (W : World) : Prop := ∀ x ∈ l, W.heap[x.1]? = some (.cells x.2.1 x.2.2 (0, 0))
theorem HS.get {W : World} {l : Bs} {g k : Nat} {cs : Array Value} {t0 : TypeId} (h : HS l W) (hk : l[k]? = some (g, cs, t0)) : W.heap[g]? = some (.cells cs t0 (0, 0)) := h _ (List.mem_of_getElem? hk)
theorem HG.stat {n : Nat} {w W : World} {l : Bs} (h : HG n w l W) : HS l W := fun x hx => (h.all x hx).2
def _root_.Go.TypeDesc.aggB : TypeDesc → Bool | .struct _ | .array _ _ => true | _ => false
def putAt (cur : Array Value) (o : Nat) (vs : List Value) : Array Value := (cur.toList.take o ++ vs ++ cur.toList.drop (o + vs.length)).toArray
section
variable {w W W1 : World} {l : Bs} {g k i : Nat} {cs : Array Value} {t0 : TypeId}
variable {m : Nat}
theorem HB.start (w : World) : HB w [] w := ⟨Below.refl _ _, by simp, .nil, Nat.le_refl _, fun _ _ _ => rfl⟩
theorem HG.lt (h : HG m w l W) {x : Nat × Array Value × TypeId} (hx : x ∈ l) : x.1 < W.heap.size := blk_lt (h.all x hx).2
theorem HG.call (h : HG m w l W) (hB : Below W.heap.size W W1) : HG m w l W1 :=
  ⟨h.below.trans (hB.mono (Nat.le_trans h.le h.below.size)), fun x hx => ⟨(h.all x hx).1, blk_below (h.all x hx).2 hB⟩, h.apart, h.le, fun k hk hn => (hB.block k (Nat.lt_of_lt_of_le hk h.below.size)).trans (h.kept k hk hn)⟩
theorem HG.drewN (h : HG m w l W) (n : Nat) : HG m w l (W.drewN n) := ⟨pw_below_drewN h.below n, h.all, h.apart, h.le, h.kept⟩
theorem HG.drawn (h : HG m w l W) (d : Drawn0 W W1) : HG m w l W1 := by
  obtain ⟨n, rfl⟩ := d
  exact h.drewN n
theorem HG.drew (h : HG m w l W) : HG m w l W.drew := h.drewN 1
theorem HG.alloc (h : HG m w l W) (cs : Array Value) (t : TypeId) : HG m w ((W.heap.size, cs, t) :: l) (W.alloc (.cells cs t (0, 0))) := by
  refine ⟨h.below.alloc (Nat.le_trans h.le h.below.size) _, ?_, ?_, h.le, fun k hk hn => ?_⟩
  · intro x hx
    rcases List.mem_cons.1 hx with rfl | hx
    · exact ⟨Nat.le_trans h.le h.below.size, blk_new _ _⟩
    · exact ⟨(h.all x hx).1, blk_alloc (h.all x hx).2 _⟩
  · refine List.pairwise_cons.2 ⟨fun x hx he => ?_, h.apart⟩
    have := h.lt hx
    simp only at he
    omega
  · rw [Below.heap_alloc _ _ _ (Nat.lt_of_lt_of_le hk h.below.size)]
    exact h.kept k hk (fun x hx => hn x (List.mem_cons_of_mem _ hx))
theorem HG.get (h : HG m w l W) (hk : l[k]? = some (g, cs, t0)) : W.heap[g]? = some (.cells cs t0 (0, 0)) := (h.all _ (List.mem_of_getElem? hk)).2
theorem HG.ge (h : HG m w l W) (hk : l[k]? = some (g, cs, t0)) : m ≤ g := (h.all _ (List.mem_of_getElem? hk)).1
theorem HG.set (h : HG m w l W) (hk : l[k]? = some (g, cs, t0)) (cs' : Array Value) : HG m w (l.set k (g, cs', t0)) (W.setRow g cs') := by
  have hg := h.get hk
  have hl := h.ge hk
  obtain ⟨hkl, hke⟩ := List.getElem?_eq_some_iff.1 hk
  have e : (l.set k (g, cs', t0)).map (·.1) = l.map (·.1) := by
    rw [List.map_set]
    apply List.ext_getElem (by simp)
    intro n h1 h2
    rw [List.getElem_set]
    split
    · rename_i hn; subst hn; simp [hke]
    · rfl
  refine ⟨⟨h.below.os, h.below.tape, h.below.output, by rw [setRow_size]; exact h.below.size, fun j hj => ?_⟩, ?_, ?_, h.le, fun j hj hn => ?_⟩
  · rw [setRow_other _ _ _ _ (by omega)]; exact h.below.block j hj
  · intro x hx
    obtain ⟨j, hj, he⟩ := List.mem_iff_getElem.1 hx
    rw [List.getElem_set] at he
    split at he
    · subst he; exact ⟨hl, setRow_heap W g cs cs' t0 (0, 0) hg⟩
    · rename_i hne
      subst he
      have hjl : j < l.length := by simpa using hj
      have hm : l[j] ∈ l := List.getElem_mem hjl
      refine ⟨(h.all _ hm).1, ?_⟩
      rw [setRow_other]
      · exact (h.all _ hm).2
      · have hp := List.pairwise_iff_getElem.1 h.apart
        intro he
        have hkg : l[k].1 = g := by rw [hke]
        rcases Nat.lt_or_gt_of_ne hne with hlt | hlt
        · exact hp k j hkl hjl hlt (by rw [hkg, he])
        · exact hp j k hjl hkl hlt (by rw [hkg, he])
  · have hp : (l.map (·.1)).Pairwise (· ≠ ·) := List.pairwise_map.2 h.apart
    rw [← e] at hp
    exact List.pairwise_map.1 hp
  · have hm : ∀ y, y ∈ l.map (·.1) → y ≠ j := fun y hy => by
      rw [← e] at hy
      obtain ⟨x, hx, rfl⟩ := List.mem_map.1 hy
      exact hn x hx
    have hgj : g ≠ j := hm g (List.mem_map.2 ⟨_, List.mem_of_getElem? hk, rfl⟩)
    rw [setRow_other _ _ _ _ (Ne.symm hgj)]
    exact h.kept j hj (fun x hx => hm _ (List.mem_map.2 ⟨x, hx, rfl⟩))
theorem HB.mk1 (hB : Below w.heap.size w W) (hg : w.heap.size ≤ g) (hb : W.heap[g]? = some (.cells cs t0 (0, 0))) : HB w [(g, cs, t0)] W :=
  ⟨hB, fun x hx => by obtain rfl := List.mem_singleton.1 hx; exact ⟨hg, hb⟩, List.pairwise_singleton .., Nat.le_refl _, fun k hk _ => hB.block k hk⟩
/-- from here on -/
theorem HG.rebase (h : HG m w l W) : HG m W l W := ⟨Below.refl _ _, h.all, h.apart, Nat.le_trans h.le h.below.size, fun _ _ _ => rfl⟩
/-- behind a rebased stretch -/
theorem HG.back {l1 : Bs} (h : HG m w l W) (h1 : HG m W l1 W1) : Below m w W1 := h.below.trans h1.below
/-- a row of the call's own, whose blocks are none of those that are known -/
theorem HG.R {α : Type} {d : Kd α} {e base : Nat} {ok : Nat → Prop} {v : Value} {xs : List α} (h : HG m w l W) (hR : d.R e w base ok v xs) (hn : ∀ x ∈ l, ∀ k, ok k → k < w.heap.size → x.1 ≠ k) : d.R e W base ok v xs :=
  Kd.R_step hR (fun k hk hl => h.kept k hl (fun x hx => hn x hx k hk hl))
/-- an append to a row that is none of the known blocks -/
theorem HG.grown {row : Option Nat} (h : HG m w l W) (hg : W.grownBy W1 row) (hB : Below m w W1) (hn : ∀ x ∈ l, some x.1 ≠ row) : HG m W1 l W1 :=
  ⟨Below.refl _ _, fun x hx => ⟨(h.all x hx).1, blk_grown (h.all x hx).2 hg (hn x hx)⟩, h.apart, Nat.le_trans h.le hB.size, fun _ _ _ => rfl⟩
end
section
variable {P : Program} {ops : Array Oper} {Q : Exit → Act → World → Prop} {rest : List Oper} {o : Oper} {a : Act} {w W : World} {l : Bs} {g i k n m : Nat} {cs : Array Value} {t t0 : TypeId} {x y : Operand} {v : Value} {d : TypeDesc}
theorem event_runW {w1 : World} (hw : Region.wanted o (yielded ops a.tmps) = true) (hrun : (execOp a.eval o).run P W = .ok (.value v) w1) (h : wpList P ops Q rest (a.put o.dst v) w1) : wpList P ops Q (o :: rest) a W := by
  unfold wpList
  rw [if_pos hw]
  refine .inl ?_
  unfold Oper.wp
  rw [hrun]
  exact h
theorem gate_box (_ho : o.op = .box t x) (h : wpList P ops Q (o :: rest) a W) : wpList P ops Q (o :: rest) a W := h
theorem gate_alloc (_ho : o.op = .alloc t) (h : wpList P ops Q (o :: rest) a W) : wpList P ops Q (o :: rest) a W := h
theorem gate_load (_ho : o.op = .load t x) (h : wpList P ops Q (o :: rest) a W) : wpList P ops Q (o :: rest) a W := h
theorem gate_st (_ho : o.op = .store t x y) (h : wpList P ops Q (o :: rest) a W) : wpList P ops Q (o :: rest) a W := h
theorem hb_box (hgd : Region.wanted o (yielded ops a.tmps) = true) (ho : o.op = .box t x) (H : HG m w l W) (hx : a.eval x = .agg cs)
    (h : ∀ g W1, w.heap.size ≤ g → HG m w ((g, cs, t) :: l) W1 → wpList P ops Q rest (a.put o.dst (.pointer (some ⟨g, 0, none⟩))) W1) : wpList P ops Q (o :: rest) a W := by
  refine event_runW hgd ?_ (h _ _ H.below.size (H.alloc cs t))
  unfold execOp
  rw [ho]; simp only [hx]; rfl
theorem hb_alloc (hgd : Region.wanted o (yielded ops a.tmps) = true) (ho : o.op = .alloc t) (H : HG m w l W) (hz : ∀ w, (zeroValue t).run P w = .ok (.agg cs) w)
    (h : ∀ g W1, w.heap.size ≤ g → HG m w ((g, cs, t) :: l) W1 → wpList P ops Q rest (a.put o.dst (.pointer (some ⟨g, 0, none⟩))) W1) : wpList P ops Q (o :: rest) a W := by
  refine event_runW hgd ?_ (h _ _ H.below.size (H.alloc cs t))
  unfold execOp
  rw [ho]
  simp only [Instr.alloc, Sem.run_bind, hz, Result.andThen_ok]
  rfl
theorem hb_load (hgd : Region.wanted o (yielded ops a.tmps) = true) (ho : o.op = .load t x) (H : HG m w l W) (hx : a.eval x = .pointer (some ⟨g, i, none⟩)) (hk : l[k]? = some (g, cs, t0)) (hu : P.underlying t = some d) (hd : d.aggB = false) (hv : cs.toList[i]? = some v)
    (h : wpList P ops Q rest (a.put o.dst v) W) : wpList P ops Q (o :: rest) a W := by
  refine event_runW hgd ?_ h
  have hc := (blk_cell (H.get hk) i).trans ((Array.getElem?_toList ..).symm.trans hv)
  unfold execOp
  rw [ho]
  have hA : (isAgg t).run P W = .ok false W := run_isAgg_plain hu (by cases d <;> first | rfl | cases hd) W
  simp [hx, Instr.loadAt, Instr.sureAddr, loadVar, hA, hc]
theorem hb_loadAt (hgd : Region.wanted o (yielded ops a.tmps) = true) (ho : o.op = .load t x) (H : HG m w l W) (hx : a.eval x = .pointer (some ⟨g, i, none⟩)) (hk : l[k]? = some (g, cs, t0)) (hu : P.underlying t = some d) (hd : d.aggB = true) (hi : (P.info? t).map (·.size) = some n) (hn : i + n ≤ cs.size)
    (h : wpList P ops Q rest (a.put o.dst (.agg ((cs.toList.drop i).take n).toArray)) W) : wpList P ops Q (o :: rest) a W := by
  refine event_runW hgd ?_ h
  unfold execOp
  rw [ho]
  have hl := run_loadCells_list (P := P) (w := W) ⟨g, i, none⟩ ((cs.toList.drop i).take n) (fun j v hv => by
    have : (⟨g, i, none⟩ : Addr).add j = ⟨g, i + j, none⟩ := by unfold Addr.add; split <;> simp_all
    rw [this, blk_cell (H.get hk)]
    rw [List.getElem?_take] at hv
    split at hv
    · rw [List.getElem?_drop] at hv; simpa using hv
    · cases hv)
  have hlen : ((cs.toList.drop i).take n).length = n := by simp; omega
  rw [hlen] at hl
  cases hq : P.info? t with
  | none => simp [hq] at hi
  | some j =>
    have hs : j.size = n := by simp [hq] at hi; exact hi
    subst hs
    cases d <;> simp [TypeDesc.aggB] at hd <;> simp [hx, Instr.loadAt, Instr.sureAddr, loadVar, isAgg, run_underlying hu, sizeOf, typeInfo, hq, hl]
theorem hb_loadRow (hgd : Region.wanted o (yielded ops a.tmps) = true) (ho : o.op = .load t x) (H : HG m w l W) (hx : a.eval x = .pointer (some ⟨g, 0, none⟩)) (hk : l[k]? = some (g, cs, t0)) (hu : P.underlying t = some d) (hd : d.aggB = true) (hi : (P.info? t).map (·.size) = some cs.size)
    (h : wpList P ops Q rest (a.put o.dst (.agg cs)) W) : wpList P ops Q (o :: rest) a W := by
  refine hb_loadAt hgd ho H hx hk hu hd hi (by omega) ?_
  rw [List.drop_zero, ← Array.length_toList, List.take_length, Array.toArray_toList]
  exact h
theorem hb_storeAt (hgd : Region.wanted o (yielded ops a.tmps) = true) (ho : o.op = .store t x y) (hN : o.dst = none) (H : HG m w l W) (hx : a.eval x = .pointer (some ⟨g, i, none⟩)) (hk : l[k]? = some (g, cs, t0)) (hy : a.eval y = v) (hi : (P.info? t).map (·.size) = some v.cells.size) (hn : i + v.cells.size ≤ cs.size) (h1 : v.cells.toList.all (·.oneCell') = true)
    (h : ∀ W1, HG m w (l.set k (g, putAt cs i v.cells.toList, t0)) W1 → wpList P ops Q rest a W1) : wpList P ops Q (o :: rest) a W := by
  unfold wpList
  rw [if_pos hgd]
  refine .inl ?_
  have := h _ (H.set hk (putAt cs i v.cells.toList))
  have hst := run_storeCells_at P g i t0 v.cells.toList 0 cs W (H.get hk) (by simpa using hn) (fun z hz => by
    exact List.all_eq_true.1 h1 z hz)
  rw [Nat.add_zero] at hst
  unfold Oper.wp execOp
  rw [ho]
  cases hq : P.info? t with
  | none => simp [hq] at hi
  | some j =>
    have hs : v.cells.size = j.size := by simp [hq] at hi; omega
    simp only [hx, hy, Instr.storeAt, Instr.sureAddr, Sem.run_bind, Sem.run_pure, Result.andThen_ok, storeVar, sizeOf, typeInfo]
    simp [hq, hs, hst, Oper.upon, hN]
    refine (show wpList P ops Q rest a _ → wpList P ops Q rest (a.put none undef) _ from id) ?_
    simpa [putAt, hs] using this
theorem hb_store (hgd : Region.wanted o (yielded ops a.tmps) = true) (ho : o.op = .store t x y) (hN : o.dst = none) (H : HG m w l W) (hx : a.eval x = .pointer (some ⟨g, i, none⟩)) (hk : l[k]? = some (g, cs, t0)) (hy : a.eval y = v) (hv : v.oneCell' = true) (hvc : v.cells = #[v]) (hi : (P.info? t).map (·.size) = some 1) (hn : i < cs.size)
    (h : ∀ W1, HG m w (l.set k (g, cs.setIfInBounds i v, t0)) W1 → wpList P ops Q rest a W1) : wpList P ops Q (o :: rest) a W := by
  refine hb_storeAt hgd ho hN H hx hk hy (by rw [hvc]; exact hi) (by rw [hvc]; exact hn) (by rw [hvc]; simp [hv]) fun W1 H1 => h W1 ?_
  have : putAt cs i v.cells.toList = cs.setIfInBounds i v := by
    rw [hvc]; unfold putAt
    apply Array.ext'
    simp [Array.toList_setIfInBounds, List.set_eq_take_append_cons_drop, hn]
  rwa [this] at H1
theorem hb_storeS {z : ByteArray} (hgd : Region.wanted o (yielded ops a.tmps) = true) (ho : o.op = .store t x y) (hN : o.dst = none) (H : HG m w l W) (hx : a.eval x = .pointer (some ⟨g, i, none⟩)) (hk : l[k]? = some (g, cs, t0)) (hy : a.eval y = .string z) (hi : (P.info? t).map (·.size) = some 1) (hn : decide (i < cs.size) = true)
    (h : ∀ W1, HG m w (l.set k (g, cs.setIfInBounds i (.string z), t0)) W1 → wpList P ops Q rest a W1) : wpList P ops Q (o :: rest) a W := hb_store hgd ho hN H hx hk hy rfl rfl hi (of_decide_eq_true hn) h
theorem hb_storePart {vs : List Value} (hgd : Region.wanted o (yielded ops a.tmps) = true) (ho : o.op = .store t x y) (hN : o.dst = none) (H : HG m w l W) (hx : a.eval x = .pointer (some ⟨g, i, none⟩)) (hk : l[k]? = some (g, cs, t0)) (hy : a.eval y = .agg vs.toArray) (hi : (P.info? t).map (·.size) = some vs.length) (hn : decide (i + vs.length ≤ cs.size) = true) (h1 : vs.all (·.oneCell') = true)
    (h : ∀ W1, HG m w (l.set k (g, putAt cs i vs, t0)) W1 → wpList P ops Q rest a W1) : wpList P ops Q (o :: rest) a W :=
  hb_storeAt (v := .agg vs.toArray) hgd ho hN H hx hk hy hi (of_decide_eq_true hn) h1 h
theorem hb_storeI {kd : IntKind} {z : Int} (hgd : Region.wanted o (yielded ops a.tmps) = true) (ho : o.op = .store t x y) (hN : o.dst = none) (H : HG m w l W) (hx : a.eval x = .pointer (some ⟨g, i, none⟩)) (hk : l[k]? = some (g, cs, t0)) (hy : a.eval y = .int kd z) (hi : (P.info? t).map (·.size) = some 1) (hn : decide (i < cs.size) = true)
    (h : ∀ W1, HG m w (l.set k (g, cs.setIfInBounds i (.int kd z), t0)) W1 → wpList P ops Q rest a W1) : wpList P ops Q (o :: rest) a W := hb_store hgd ho hN H hx hk hy rfl rfl hi (of_decide_eq_true hn) h
theorem hb_storeB {z : Bool} (hgd : Region.wanted o (yielded ops a.tmps) = true) (ho : o.op = .store t x y) (hN : o.dst = none) (H : HG m w l W) (hx : a.eval x = .pointer (some ⟨g, i, none⟩)) (hk : l[k]? = some (g, cs, t0)) (hy : a.eval y = .bool z) (hi : (P.info? t).map (·.size) = some 1) (hn : decide (i < cs.size) = true)
    (h : ∀ W1, HG m w (l.set k (g, cs.setIfInBounds i (.bool z), t0)) W1 → wpList P ops Q rest a W1) : wpList P ops Q (o :: rest) a W := hb_store hgd ho hN H hx hk hy rfl rfl hi (of_decide_eq_true hn) h
theorem hb_storeRow {vs : Array Value} (hgd : Region.wanted o (yielded ops a.tmps) = true) (ho : o.op = .store t x y) (hN : o.dst = none) (H : HG m w l W) (hx : a.eval x = .pointer (some ⟨g, 0, none⟩)) (hk : l[k]? = some (g, cs, t0)) (hy : a.eval y = .agg vs) (hi : (P.info? t).map (·.size) = some vs.size) (hn : vs.size = cs.size) (h1 : vs.toList.all (·.oneCell') = true)
    (h : ∀ W1, HG m w (l.set k (g, vs, t0)) W1 → wpList P ops Q rest a W1) : wpList P ops Q (o :: rest) a W := by
  refine hb_storeAt hgd ho hN H hx hk hy hi (by show 0 + vs.size ≤ _; omega) h1 fun W1 H1 => h W1 ?_
  have : putAt cs 0 (Value.agg vs).cells.toList = vs := by
    unfold putAt
    show (List.take 0 cs.toList ++ vs.toList ++ List.drop (0 + vs.toList.length) cs.toList).toArray = vs
    rw [List.take_zero, List.nil_append, List.drop_of_length_le (by simp; omega), List.append_nil, Array.toArray_toList]
  rwa [this] at H1
end
/-! ### Drawn regions, walked in one order that is laid: what yields is taken first -/
section
variable {P : Program} {ops : Array Oper} {Q : Exit → Act → World → Prop} {S : World → Prop}
/-- an order: t: it yields in each world that meets S; e: it alone may come up; b: either of two may -/
inductive Lx where
  | n | t (i : Nat) (r : Lx) | e (i : Nat) (r : Lx) | b (i j : Nat) (r s : Lx) | c (i j k : Nat) (r s t : Lx)
def Lx.len : Lx → Nat
  | .n => 0 | .t _ r => r.len + 1 | .e _ r => r.len + 1 | .b _ _ r _ => r.len + 1 | .c _ _ _ r _ _ => r.len + 1
def wpLex (P : Program) (ops : Array Oper) (Q : Exit → Act → World → Prop) (S : World → Prop) : Lx → Act → World → Prop
  | .n, a, w => Q .normal a w
  | .t i r, a, w => ∃ o v, ops[i]? = some o ∧ YieldsIf P ops S o v a ∧ wpLex P ops Q S r (a.put o.dst v) w
  | .e i r, a, w => wpOp P ops Q i (fun a' w' => S w' ∧ wpLex P ops Q S r a' w') a w
  | .b i j r s, a, w => wpOp P ops Q i (fun a' w' => S w' ∧ wpLex P ops Q S r a' w') a w ∧ wpOp P ops Q j (fun a' w' => S w' ∧ wpLex P ops Q S s a' w') a w
  | .c i j k r s t, a, w => wpOp P ops Q i (fun a' w' => S w' ∧ wpLex P ops Q S r a' w') a w ∧ wpOp P ops Q j (fun a' w' => S w' ∧ wpLex P ops Q S s a' w') a w ∧ wpOp P ops Q k (fun a' w' => S w' ∧ wpLex P ops Q S t a' w') a w
def lexOk (ops : Array Oper) : Lx → Array Bool → Bool
  | .n, l => (Region.ready .any ops l).isEmpty
  | .t i r, l => (Region.ready .any ops l).contains i && Region.free .any ops l i && lexOk ops r (l.setIfInBounds i true)
  | .e i r, l => (Region.ready .any ops l == [i]) && lexOk ops r (l.setIfInBounds i true)
  | .b i j r s, l => (Region.ready .any ops l == [i, j]) && r.len == s.len && lexOk ops r (l.setIfInBounds i true) && lexOk ops s (l.setIfInBounds j true)
  | .c i j k r s t, l => (Region.ready .any ops l == [i, j, k]) && r.len == s.len && r.len == t.len && lexOk ops r (l.setIfInBounds i true) && lexOk ops s (l.setIfInBounds j true) && lexOk ops t (l.setIfInBounds k true)
theorem lex_sound (hs : Region.noSelect ops = true) (hQ : ∀ c (a : Act) (d : Option Tmp) (v : Value) w, Q (.panic c) (a.put d v) w → Q (.panic c) a w) : ∀ (n : Nat) (L : Lx) (l : Array Bool) (a : Act) (w : World), L.len = n → lexOk ops L l = true → S w → wpLex P ops Q S L a w → wpAnyH P .any ops Q S n l a w
  | _, .n, l, a, w, rfl, hc, _, h => ⟨by simpa [lexOk] using hc, h⟩
  | _, .t i r, l, a, w, rfl, hc, hS, h => by
    simp only [lexOk, Bool.and_eq_true] at hc
    obtain ⟨o, v, hi, hy, h⟩ := h
    exact wpAnyH_take hi hs hc.1.2 hc.1.1 (fun c a w => hQ c a _ _ w) hy hS (lex_sound hs hQ _ r _ _ _ rfl hc.2 hS h)
  | _, .e i r, l, a, w, rfl, hc, hS, h => by
    simp only [lexOk, Bool.and_eq_true, beq_iff_eq] at hc
    refine wpAnyH_all hc.1 (by simp) fun j hj => ?_
    obtain rfl := List.mem_singleton.1 hj
    exact wpOp_mono (fun a' w' hh => ⟨hh.1, lex_sound hs hQ _ r _ _ _ rfl hc.2 hh.1 hh.2⟩) h
  | _, .b i j r s, l, a, w, rfl, hc, hS, h => by
    simp only [lexOk, Bool.and_eq_true, beq_iff_eq] at hc
    obtain ⟨⟨⟨h1, h2⟩, h3⟩, h4⟩ := hc
    refine wpAnyH_all h1 (by simp) fun k hk => ?_
    rcases List.mem_cons.1 hk with rfl | hk
    · exact wpOp_mono (fun a' w' hh => ⟨hh.1, lex_sound hs hQ _ r _ _ _ rfl h3 hh.1 hh.2⟩) h.1
    · obtain rfl := List.mem_singleton.1 hk
      exact wpOp_mono (fun a' w' hh => ⟨hh.1, lex_sound hs hQ _ s _ _ _ h2.symm h4 hh.1 hh.2⟩) h.2
  | _, .c i j k r s t, l, a, w, rfl, hc, hS, h => by
    simp only [lexOk, Bool.and_eq_true, beq_iff_eq] at hc
    obtain ⟨⟨⟨⟨⟨h1, h2⟩, h3⟩, h4⟩, h5⟩, h6⟩ := hc
    refine wpAnyH_all h1 (by simp) fun q hq => ?_
    rcases List.mem_cons.1 hq with rfl | hq
    · exact wpOp_mono (fun a' w' hh => ⟨hh.1, lex_sound hs hQ _ r _ _ _ rfl h4 hh.1 hh.2⟩) h.1
    · rcases List.mem_cons.1 hq with rfl | hq
      · exact wpOp_mono (fun a' w' hh => ⟨hh.1, lex_sound hs hQ _ s _ _ _ h2.symm h5 hh.1 hh.2⟩) h.2.1
      · obtain rfl := List.mem_singleton.1 hq
        exact wpOp_mono (fun a' w' hh => ⟨hh.1, lex_sound hs hQ _ t _ _ _ h3.symm h6 hh.1 hh.2⟩) h.2.2
theorem lex_start {id : Nat} {a : Act} {w : World} (L : Lx) (hm : P.follows .mixedOrders = true) (hs : (Region.noSelect ops && lexOk ops L (Array.replicate ops.size false) && L.len == ops.size) = true) (hS : S w.drew)
    (hQ : ∀ c (a : Act) (d : Option Tmp) (v : Value) w, Q (.panic c) (a.put d v) w → Q (.panic c) a w) (h : S w.drew → wpLex P ops Q S L a w.drew) : (Code.region id ops true).wp P Q a w := by
  simp only [Bool.and_eq_true, beq_iff_eq] at hs
  exact wp_region_held (S := S) hm (lex_sound hs.1.1 hQ _ L _ _ _ hs.2 hs.1.2 hS (h hS))
theorem lex_take {i : Nat} {r : Lx} {o : Oper} {a : Act} {w : World} {v : Value} (hi : ops[i]? = some o) (hy : YieldsIf P ops S o v a) (h : wpLex P ops Q S r (a.put o.dst v) w) : wpLex P ops Q S (.t i r) a w := ⟨o, v, hi, hy, h⟩
theorem lex_two {i j : Nat} {r s : Lx} {a : Act} {w : World} (h1 : wpLex P ops Q S (.e i r) a w) (h2 : wpLex P ops Q S (.e j s) a w) : wpLex P ops Q S (.b i j r s) a w := ⟨h1, h2⟩
theorem lex_three {i j k : Nat} {r s t : Lx} {a : Act} {w : World} (h1 : wpLex P ops Q S (.e i r) a w) (h2 : wpLex P ops Q S (.e j s) a w) (h3 : wpLex P ops Q S (.e k t) a w) : wpLex P ops Q S (.c i j k r s t) a w := ⟨h1, h2, h3⟩
theorem lexg_load {i : Nat} {r : Lx} {o : Oper} {t : TypeId} {x : Operand} {a : Act} {w : World} (_hi : ops[i]? = some o) (_ho : o.op = .load t x) (h : wpLex P ops Q S (.t i r) a w) : wpLex P ops Q S (.t i r) a w := h
theorem lexg_pure {i : Nat} {r : Lx} {a : Act} {w : World} (h : wpLex P ops Q S (.t i r) a w) : wpLex P ops Q S (.t i r) a w := h
theorem lex_pure {i : Nat} {r : Lx} {o : Oper} {N : Tmp} {a a' : Act} {w : World} {v : Value} (hi : ops[i]? = some o) (hN : o.dst = some N) (hg : Region.wanted o (yielded ops a.tmps) = true) (hrun : ∀ w, S w → (execOp a.eval o).run P w = .ok (.value v) w) (ha : a.put (some N) v = a') (h : wpLex P ops Q S r a' w) : wpLex P ops Q S (.t i r) a w := by
  subst ha
  rw [← hN] at h
  exact lex_take hi (.inl ⟨hg, hrun⟩) h
theorem lex_skip {i : Nat} {r : Lx} {o : Oper} {N : Tmp} {a a' : Act} {w : World} (hi : ops[i]? = some o) (hN : o.dst = some N) (hg : Region.wanted o (yielded ops a.tmps) = false) (ha : a.put (some N) undef = a') (h : wpLex P ops Q S r a' w) : wpLex P ops Q S (.t i r) a w := by
  subst ha
  rw [← hN] at h
  exact lex_take hi (.inr ⟨hg, rfl⟩) h
theorem lex_skipE {i : Nat} {r : Lx} {o : Oper} {N : Tmp} {a a' : Act} {w : World} (hi : ops[i]? = some o) (hN : o.dst = some N) (hg : Region.wanted o (yielded ops a.tmps) = false) (ha : a.put (some N) undef = a') (hS : S w) (h : wpLex P ops Q S r a' w) : wpLex P ops Q S (.e i r) a w := by
  subst ha
  rw [← hN] at h
  show wpOp P ops Q i _ a w
  unfold wpOp
  simp only [hi, hg, Bool.false_eq_true, if_false]
  exact ⟨hS, h⟩
theorem lex_eff {i : Nat} {r : Lx} {o : Oper} {a : Act} {w : World} (hi : ops[i]? = some o) (hg : Region.wanted o (yielded ops a.tmps) = true) (h : ∀ K : Act → World → Prop, (∀ a' w', S w' → wpLex P ops Q S r a' w' → K a' w') → o.wp P a w K Q) : wpLex P ops Q S (.e i r) a w := by
  show wpOp P ops Q i _ a w
  unfold wpOp
  simp only [hi, hg, if_true]
  exact .inl (h _ fun a' w' h1 h2 => ⟨h1, h2⟩)
end
section
variable {P : Program} {ops : Array Oper} {Q : Exit → Act → World → Prop} {r : Lx} {o : Oper} {a : Act} {w W : World} {rest : List Oper} {l ls : Bs} {g i j k n m : Nat} {cs : Array Value} {t t0 : TypeId} {x y : Operand} {v : Value} {d : TypeDesc}
theorem run_hfield {fs : Array Field} {f : Nat} {fd : Field} (ho : o.op = .fieldAddr t x f) (hu : P.underlying t = some (.struct fs)) (hf : fs[f]? = some fd) (hs : (P.info? fd.type).map (fun q => q.size == 0) = some false) (hx : a.eval x = .pointer (some ⟨g, i, none⟩)) (W : World) : (execOp a.eval o).run P W = .ok (.value (.pointer (some ⟨g, i + fd.offset, none⟩))) W := by
  unfold execOp
  rw [ho]
  have hadd : (⟨g, i, none⟩ : Addr).add fd.offset = ⟨g, i + fd.offset, none⟩ := by unfold Addr.add; split <;> simp_all
  cases hq : P.info? fd.type with
  | none => simp [hq] at hs
  | some q =>
    have h0 : ¬ q.size = 0 := by simpa [hq] using hs
    simp [Instr.fieldAt, run_underlying hu, hf, hx, Instr.sureAddr, fieldPlace, sizeOf, typeInfo, hq, h0, hadd]
theorem run_hload (ho : o.op = .load t x) (hx : a.eval x = .pointer (some ⟨g, i, none⟩)) (hk : W.heap[g]? = some (.cells cs t0 (0, 0))) (hu : P.underlying t = some d) (hd : d.aggB = false) (hv : cs.toList[i]? = some v) : (execOp a.eval o).run P W = .ok (.value v) W := by
  have hc := (blk_cell (hk) i).trans ((Array.getElem?_toList ..).symm.trans hv)
  unfold execOp
  rw [ho]
  have hA : (isAgg t).run P W = .ok false W := run_isAgg_plain hu (by cases d <;> first | rfl | cases hd) W
  simp [hx, Instr.loadAt, Instr.sureAddr, loadVar, hA, hc]
theorem lex_load {N : Tmp} {a' : Act} (hi : ops[j]? = some o) (hN : o.dst = some N) (hg : Region.wanted o (yielded ops a.tmps) = true) (ho : o.op = .load t x) (hx : a.eval x = .pointer (some ⟨g, i, none⟩)) (hk : ls[k]? = some (g, cs, t0)) (hu : P.underlying t = some d) (hd : d.aggB = false) (hv : cs.toList[i]? = some v) (ha : a.put (some N) v = a')
    (h : wpLex P ops Q (HS ls) r a' W) : wpLex P ops Q (HS ls) (.t j r) a W :=
  lex_pure hi hN hg (fun W1 H => run_hload ho hx (HS.get H hk) hu hd hv) ha h
theorem run_hloadAt {vs : List Value} (ho : o.op = .load t x) (hx : a.eval x = .pointer (some ⟨g, i, none⟩)) (hk : W.heap[g]? = some (.cells cs t0 (0, 0))) (hu : P.underlying t = some d) (hd : d.aggB = true) (n : Nat) (hi : (P.info? t).map (·.size) = some n) (hn : decide (i + n ≤ cs.size) = true) (hv : (cs.toList.drop i).take n = vs) : (execOp a.eval o).run P W = .ok (.value (.agg vs.toArray)) W := by
  subst hv
  have hn := of_decide_eq_true hn
  unfold execOp
  rw [ho]
  have hl := run_loadCells_list (P := P) (w := W) ⟨g, i, none⟩ ((cs.toList.drop i).take n) (fun j v hv => by
    have : (⟨g, i, none⟩ : Addr).add j = ⟨g, i + j, none⟩ := by unfold Addr.add; split <;> simp_all
    rw [this, blk_cell (hk)]
    rw [List.getElem?_take] at hv
    split at hv
    · rw [List.getElem?_drop] at hv; simpa using hv
    · cases hv)
  have hlen : ((cs.toList.drop i).take n).length = n := by simp; omega
  rw [hlen] at hl
  cases hq : P.info? t with
  | none => simp [hq] at hi
  | some j =>
    have hs : j.size = n := by simp [hq] at hi; exact hi
    subst hs
    cases d <;> simp [TypeDesc.aggB] at hd <;> simp [hx, Instr.loadAt, Instr.sureAddr, loadVar, isAgg, run_underlying hu, sizeOf, typeInfo, hq, hl]
theorem hb_part {vs : List Value} (hgd : o.guard = none) (ho : o.op = .load t x) (H : HG m w l W) (hx : a.eval x = .pointer (some ⟨g, i, none⟩)) (hk : l[k]? = some (g, cs, t0)) (hu : P.underlying t = some d) (hd : d.aggB = true) (n : Nat) (hi : (P.info? t).map (·.size) = some n) (hn : decide (i + n ≤ cs.size) = true) (hv : (cs.toList.drop i).take n = vs)
    (h : wpList P ops Q rest (a.put o.dst (.agg vs.toArray)) W) : wpList P ops Q (o :: rest) a W := Kd.event_run hgd (run_hloadAt ho hx (H.get hk) hu hd n hi hn hv) h
theorem lex_part {N : Tmp} {a' : Act} {vs : List Value} (hi : ops[j]? = some o) (hN : o.dst = some N) (hg : Region.wanted o (yielded ops a.tmps) = true) (ho : o.op = .load t x) (hx : a.eval x = .pointer (some ⟨g, i, none⟩)) (hk : ls[k]? = some (g, cs, t0)) (hu : P.underlying t = some d) (hd : d.aggB = true) (n : Nat) (hsz : (P.info? t).map (·.size) = some n) (hn : decide (i + n ≤ cs.size) = true) (hv : (cs.toList.drop i).take n = vs) (ha : a.put (some N) (.agg vs.toArray) = a')
    (h : wpLex P ops Q (HS ls) r a' W) : wpLex P ops Q (HS ls) (.t j r) a W :=
  lex_pure hi hN hg (fun W1 H => run_hloadAt ho hx (HS.get H hk) hu hd n hsz hn hv) ha h
theorem lex_row {N : Tmp} {a' : Act} (hi : ops[j]? = some o) (hN : o.dst = some N) (hg : Region.wanted o (yielded ops a.tmps) = true) (ho : o.op = .load t x) (hx : a.eval x = .pointer (some ⟨g, 0, none⟩)) (hk : ls[k]? = some (g, cs, t0)) (hu : P.underlying t = some d) (hd : d.aggB = true) (hsz : (P.info? t).map (·.size) = some cs.size) (ha : a.put (some N) (.agg cs) = a')
    (h : wpLex P ops Q (HS ls) r a' W) : wpLex P ops Q (HS ls) (.t j r) a W :=
  lex_part (vs := cs.toList) hi hN hg ho hx hk hu hd cs.size hsz (by simp) (by rw [List.drop_zero, ← Array.length_toList, List.take_length]) (by rw [Array.toArray_toList]; exact ha) h
theorem HG.sub1 {x : Nat × Array Value × TypeId} (h : HG m w l W) (j : Nat) (hj : l[j]? = some x) : HS [x] W := fun y hy => by obtain rfl := List.mem_singleton.1 hy; exact (h.all _ (List.mem_of_getElem? hj)).2
theorem HG.sub2 {x y : Nat × Array Value × TypeId} (h : HG m w l W) (j k : Nat) (hj : l[j]? = some x) (hk : l[k]? = some y) : HS [x, y] W := fun z hz => by
  rcases List.mem_cons.1 hz with rfl | hz
  · exact (h.all _ (List.mem_of_getElem? hj)).2
  · obtain rfl := List.mem_singleton.1 hz; exact (h.all _ (List.mem_of_getElem? hk)).2
theorem lex_store {S : World → Prop} (hi : ops[j]? = some o) (hg : Region.wanted o (yielded ops a.tmps) = true) (ho : o.op = .store t x y) (hN : o.dst = none) (H : HG m w l W) (hx : a.eval x = .pointer (some ⟨g, i, none⟩)) (hk : l[k]? = some (g, cs, t0)) (hy : a.eval y = v) (hv : v.oneCell' = true) (hvc : v.cells = #[v]) (hsz : (P.info? t).map (·.size) = some 1) (hn : i < cs.size)
    (hS : ∀ W1, HG m w (l.set k (g, cs.setIfInBounds i v, t0)) W1 → S W1)
    (h : ∀ W1, HG m w (l.set k (g, cs.setIfInBounds i v, t0)) W1 → wpLex P ops Q S r a W1) : wpLex P ops Q S (.e j r) a W := by
  refine lex_eff hi hg fun K hK => ?_
  have hrun : (execOp a.eval o).run P W = .ok .skip (W.setRow g (cs.setIfInBounds i v)) := by
    have hst := run_storeCells_at P g i t0 v.cells.toList 0 cs W (H.get hk) (by rw [hvc]; simp; omega) (fun z hz => by rw [hvc] at hz; simp at hz; subst hz; exact hv)
    rw [Nat.add_zero] at hst
    have : (cs.toList.take i ++ v.cells.toList ++ cs.toList.drop (i + v.cells.toList.length)).toArray = cs.setIfInBounds i v := by
      rw [hvc]
      apply Array.ext'
      simp [Array.toList_setIfInBounds, List.set_eq_take_append_cons_drop, hn]
    rw [this] at hst
    unfold execOp
    rw [ho]
    cases hq : P.info? t with
    | none => simp [hq] at hsz
    | some q =>
      have hs : v.cells.size = q.size := by rw [hvc]; simp [hq] at hsz; simp; omega
      simp only [hx, hy, Instr.storeAt, Instr.sureAddr, Sem.run_bind, Sem.run_pure, Result.andThen_ok, storeVar, sizeOf, typeInfo]
      simp [hq, hs, hst]
  unfold Oper.wp
  rw [hrun]
  show K (a.put o.dst undef) _
  rw [hN]
  have H1 := H.set hk (cs.setIfInBounds i v)
  exact hK _ _ (hS _ H1) (h _ H1)
theorem lex_storeI {S : World → Prop} {kd : IntKind} {z : Int} (hi : ops[j]? = some o) (hg : Region.wanted o (yielded ops a.tmps) = true) (ho : o.op = .store t x y) (hN : o.dst = none) (H : HG m w l W) (hx : a.eval x = .pointer (some ⟨g, i, none⟩)) (hk : l[k]? = some (g, cs, t0)) (hy : a.eval y = .int kd z) (hsz : (P.info? t).map (·.size) = some 1) (hn : decide (i < cs.size) = true)
    (hS : ∀ W1, HG m w (l.set k (g, cs.setIfInBounds i (.int kd z), t0)) W1 → S W1)
    (h : ∀ W1, HG m w (l.set k (g, cs.setIfInBounds i (.int kd z), t0)) W1 → wpLex P ops Q S r a W1) : wpLex P ops Q S (.e j r) a W := lex_store hi hg ho hN H hx hk hy rfl rfl hsz (of_decide_eq_true hn) hS h
theorem lex_storeB {S : World → Prop} {z : Bool} (hi : ops[j]? = some o) (hg : Region.wanted o (yielded ops a.tmps) = true) (ho : o.op = .store t x y) (hN : o.dst = none) (H : HG m w l W) (hx : a.eval x = .pointer (some ⟨g, i, none⟩)) (hk : l[k]? = some (g, cs, t0)) (hy : a.eval y = .bool z) (hsz : (P.info? t).map (·.size) = some 1) (hn : decide (i < cs.size) = true)
    (hS : ∀ W1, HG m w (l.set k (g, cs.setIfInBounds i (.bool z), t0)) W1 → S W1)
    (h : ∀ W1, HG m w (l.set k (g, cs.setIfInBounds i (.bool z), t0)) W1 → wpLex P ops Q S r a W1) : wpLex P ops Q S (.e j r) a W := lex_store hi hg ho hN H hx hk hy rfl rfl hsz (of_decide_eq_true hn) hS h
theorem lex_storeRow {vs : Array Value} {S : World → Prop} (hi : ops[j]? = some o) (hg : Region.wanted o (yielded ops a.tmps) = true) (ho : o.op = .store t x y) (hN : o.dst = none) (H : HG m w l W) (hx : a.eval x = .pointer (some ⟨g, 0, none⟩)) (hk : l[k]? = some (g, cs, t0)) (hy : a.eval y = .agg vs) (hsz : (P.info? t).map (·.size) = some vs.size) (hn : vs.size = cs.size) (h1 : vs.toList.all (·.oneCell') = true)
    (hS : ∀ W1, HG m w (l.set k (g, vs, t0)) W1 → S W1) (h : ∀ W1, HG m w (l.set k (g, vs, t0)) W1 → wpLex P ops Q S r a W1) : wpLex P ops Q S (.e j r) a W := by
  refine lex_eff hi hg fun K hK => ?_
  have hrun : (execOp a.eval o).run P W = .ok .skip (W.setRow g vs) := by
    have hst := run_storeCells_at P g 0 t0 vs.toList 0 cs W (H.get hk) (by simp; omega) (fun z hz => List.all_eq_true.1 h1 z hz)
    have : (cs.toList.take (0 + 0) ++ vs.toList ++ cs.toList.drop (0 + 0 + vs.toList.length)).toArray = vs := by
      rw [Nat.add_zero, Nat.zero_add, List.take_zero, List.nil_append, List.drop_of_length_le (by simp; omega), List.append_nil, Array.toArray_toList]
    rw [this] at hst
    unfold execOp
    rw [ho]
    cases hq : P.info? t with
    | none => simp [hq] at hsz
    | some q =>
      have hs : vs.size = q.size := by simp [hq] at hsz; omega
      simp only [hx, hy, Instr.storeAt, Instr.sureAddr, Sem.run_bind, Sem.run_pure, Result.andThen_ok, storeVar, sizeOf, typeInfo]
      simp [hq, Value.cells, hs, hst]
  unfold Oper.wp
  rw [hrun]
  show K (a.put o.dst undef) _
  rw [hN]
  have H1 := H.set hk vs
  exact hK _ _ (hS _ H1) (h _ H1)
theorem lex_alloc {S : World → Prop} {N : Tmp} (hi : ops[j]? = some o) (hg : Region.wanted o (yielded ops a.tmps) = true) (hN : o.dst = some N) (ho : o.op = .alloc t) (H : HG m w l W) (hz : ∀ w, (zeroValue t).run P w = .ok (.agg cs) w) (hS : ∀ W1, HG m w ((W.heap.size, cs, t) :: l) W1 → S W1)
    (h : ∀ g W1, HG m w ((g, cs, t) :: l) W1 → wpLex P ops Q S r (a.put (some N) (.pointer (some ⟨g, 0, none⟩))) W1) : wpLex P ops Q S (.e j r) a W := by
  refine lex_eff hi hg fun K hK => ?_
  have hrun : (execOp a.eval o).run P W = .ok (.value (.pointer (some ⟨W.heap.size, 0, none⟩))) (W.alloc (.cells cs t (0, 0))) := by
    unfold execOp
    rw [ho]
    simp only [Instr.alloc, Sem.run_bind, hz, Result.andThen_ok]
    rfl
  unfold Oper.wp
  rw [hrun]
  show K (a.put o.dst _) _
  rw [hN]
  have H1 := H.alloc cs t
  exact hK _ _ (hS _ H1) (h _ _ H1)
theorem lex_call {S : World → Prop} {N : Tmp} {f : FuncId} {fn : Func} {xs : Array Operand} {ts : Array TypeId} {args : Array Value} (hi : ops[j]? = some o) (hg : Region.wanted o (yielded ops a.tmps) = true) (hN : o.dst = some N) (hop : o.op = .call { callee := .value (.func f), args := xs, argTypes := ts }) (hf : P.funcs[f]? = some fn) (hname : (fn.name == "runtime.NumGoroutine") = false) (hb : fn.body.isSome = true) (hargs : xs.map a.eval = args)
    (h : Calls P f args W fun e w' => ∃ v, e = .returned v ∧ S w' ∧ wpLex P ops Q S r (a.put (some N) v) w') : wpLex P ops Q S (.e j r) a W := by
  refine lex_eff hi hg fun K hK => ?_
  have he := enters_ hf hname hb args W
  have hrun : (execOp a.eval o).run P W = .ok (.enter f args) W := by
    unfold execOp
    simp [hop, resolve, Deferred.ofValue, invoke, Act.eval, hargs, he]
  unfold Oper.wp
  rw [hrun, Oper.upon_enter]
  refine h.mono fun e w'' hh => ?_
  obtain ⟨v, rfl, h1, h2⟩ := hh
  show K (a.put o.dst v) w''
  rw [hN]
  exact hK _ _ h1 h2
theorem lex_done {S : World → Prop} (h : Q .normal a W) : wpLex P ops Q S .n a W := h
end
end Go.Proofs.YtkbjlaknhedekaaDoor.Sm
