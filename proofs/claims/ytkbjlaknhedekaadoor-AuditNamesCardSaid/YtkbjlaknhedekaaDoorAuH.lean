/- More of known blocks: blocks that came in, scalars boxed. Conditions: those that each theorem states. -/
import Derived.Test.YtkbjlaknhedekaaDoorHB
import Derived.Test.YtkbjlaknhedekaaDoorAuB
import Derived.Test.YtkbjlaknhedekaaDoorBitsGo
import Derived.Deep.AppendSrc
set_option linter.unusedVariables false
set_option linter.unusedSimpArgs false
/- More of known blocks: blocks that came in, scalars boxed. -/
namespace Go.Proofs.YtkbjlaknhedekaaDoor.Sm
open Go Go.Proofs Go.RowKit Go.Proofs.YtkbjlaknhedekaaDoorW.PrintWords Go.Proofs.YtkbjlaknhedekaaDoorW.PrintLast Go.Proofs.YtkbjlaknhedekaaDoorW.PrintMore
section
variable {w W W1 : World} {l : Bs} {g k i m : Nat} {cs cs' : Array Value} {t0 : TypeId}
theorem HG.drop {x : Nat × Array Value × TypeId} (h : HG m w (x :: l) W) (hx : w.heap.size ≤ x.1) : HG m w l W :=
  ⟨h.below, fun y hy => h.all y (List.mem_cons_of_mem _ hy), (List.pairwise_cons.1 h.apart).2, h.le, fun k hk hn => h.kept k hk fun y hy => by
    rcases List.mem_cons.1 hy with rfl | hy
    · omega
    · exact hn y hy⟩
/-- blocks that came in -/
theorem HG.open_ {l : Bs} (hs : HS l W) (hp : l.Pairwise (fun x y => x.1 ≠ y.1)) : HG 0 W l W := ⟨Below.refl _ _, fun x hx => ⟨Nat.zero_le _, hs x hx⟩, hp, Nat.zero_le _, fun _ _ _ => rfl⟩
theorem HG.open1 (hg : W.heap[g]? = some (.cells cs t0 (0, 0))) : HG 0 W [(g, cs, t0)] W := HG.open_ (fun x hx => by obtain rfl := List.mem_singleton.1 hx; exact hg) (List.pairwise_singleton ..)
/-- behind a call that was handed one block and wrote it -/
theorem HG.through (h : HG m w l W) (hk : l[k]? = some (g, cs, t0)) (h1 : HG 0 W [(g, cs', t0)] W1) : HG m w (l.set k (g, cs', t0)) W1 := by
  have hg := h.get hk
  have hl := h.ge hk
  obtain ⟨hkl, hke⟩ := List.getElem?_eq_some_iff.1 hk
  have e : (l.set k (g, cs', t0)).map (·.1) = l.map (·.1) := by
    rw [List.map_set]
    apply List.ext_getElem (by simp)
    intro n h1 h2
    rw [List.getElem_set]
    split
    · rename_i hn; subst hn; simp [hke]
    · rfl
  have hsz : W.heap.size ≤ W1.heap.size := h1.below.size
  have hk1 : ∀ j, j < W.heap.size → j ≠ g → W1.heap[j]? = W.heap[j]? := fun j hj hne => h1.kept j hj (fun x hx => by obtain rfl := List.mem_singleton.1 hx; exact fun he => hne he.symm)
  refine ⟨⟨h1.below.os.trans h.below.os, h1.below.tape.trans h.below.tape, h1.below.output.trans h.below.output, Nat.le_trans h.below.size hsz, fun j hj => ?_⟩, ?_, ?_, h.le, fun j hj hn => ?_⟩
  · rw [hk1 j (Nat.lt_of_lt_of_le hj (Nat.le_trans h.le h.below.size)) (by omega)]; exact h.below.block j hj
  · intro x hx
    obtain ⟨j, hj, he⟩ := List.mem_iff_getElem.1 hx
    rw [List.getElem_set] at he
    split at he
    · subst he; exact ⟨hl, (h1.all _ (List.mem_singleton.2 rfl)).2⟩
    · rename_i hne
      subst he
      have hjl : j < l.length := by simpa using hj
      have hm : l[j] ∈ l := List.getElem_mem hjl
      refine ⟨(h.all _ hm).1, ?_⟩
      rw [hk1 _ (h.lt hm)]
      · exact (h.all _ hm).2
      · have hp := List.pairwise_iff_getElem.1 h.apart
        intro he
        have hkg : l[k].1 = g := by rw [hke]
        rcases Nat.lt_or_gt_of_ne hne with hlt | hlt
        · exact hp k j hkl hjl hlt (by rw [hkg, he])
        · exact hp j k hjl hkl hlt (by rw [hkg, he])
  · have hp : (l.map (·.1)).Pairwise (· ≠ ·) := List.pairwise_map.2 h.apart
    rw [← e] at hp
    exact List.pairwise_map.1 hp
  · have hm : ∀ y, y ∈ l.map (·.1) → y ≠ j := fun y hy => by
      rw [← e] at hy
      obtain ⟨x, hx, rfl⟩ := List.mem_map.1 hy
      exact hn x hx
    have hgj : g ≠ j := hm g (List.mem_map.2 ⟨_, List.mem_of_getElem? hk, rfl⟩)
    rw [hk1 j (Nat.lt_of_lt_of_le hj h.below.size) (Ne.symm hgj)]
    exact h.kept j hj (fun x hx => hm _ (List.mem_map.2 ⟨x, hx, rfl⟩))
/-- begun behind a block that was laid -/
theorem HG.unalloc {o : Obj} (h : HG 0 (w.alloc o) l W) : HG 0 w l W := by
  have hb := (Below.refl 0 w).alloc (Nat.zero_le _) o
  refine ⟨hb.trans h.below, h.all, h.apart, Nat.zero_le _, fun k hk hn => ?_⟩
  rw [h.kept k (by rw [World.size_alloc]; omega) hn, Below.heap_alloc _ _ _ hk]
/-- what came in is as it was -/
theorem HG.same (h : HG m w l W) (hs : ∀ x ∈ l, x.1 < w.heap.size → w.heap[x.1]? = some (.cells x.2.1 x.2.2 (0, 0))) : Below w.heap.size w W := by
  refine ⟨h.below.os, h.below.tape, h.below.output, h.below.size, fun j hj => ?_⟩
  by_cases hx : ∃ x ∈ l, x.1 = j
  · obtain ⟨x, hx, rfl⟩ := hx
    rw [(h.all x hx).2, hs x hx hj]
  · exact h.kept j hj fun x hm he => hx ⟨x, hm, he⟩
theorem HG.same1 (h : HG m w [(g, cs, t0)] W) (hg : w.heap[g]? = some (.cells cs t0 (0, 0))) : Below w.heap.size w W := h.same fun x hx _ => by obtain rfl := List.mem_singleton.1 hx; exact hg
end
section
variable {P : Program} {ops : Array Oper} {Q : Exit → Act → World → Prop} {rest : List Oper} {o : Oper} {a : Act} {w W : World} {l : Bs} {g i k n m : Nat} {cs : Array Value} {t t0 : TypeId} {x y : Operand} {v u : Value} {d : TypeDesc}
theorem hb_storeL {A : Option Addr} {z c : Nat} (hgd : Region.wanted o (yielded ops a.tmps) = true) (ho : o.op = .store t x y) (hN : o.dst = none) (H : HG m w l W) (hx : a.eval x = .pointer (some ⟨g, i, none⟩)) (hk : l[k]? = some (g, cs, t0)) (hy : a.eval y = .slice A z c) (hi : (P.info? t).map (·.size) = some 1) (hn : decide (i < cs.size) = true)
    (h : ∀ W1, HG m w (l.set k (g, cs.setIfInBounds i (.slice A z c), t0)) W1 → wpList P ops Q rest a W1) : wpList P ops Q (o :: rest) a W := hb_store hgd ho hN H hx hk hy rfl rfl hi (of_decide_eq_true hn) h
theorem hb_box1 (hgd : Region.wanted o (yielded ops a.tmps) = true) (ho : o.op = .box t x) (H : HG m w l W) (hx : a.eval x = u) (hu : u.cells = #[u])
    (h : ∀ g W1, w.heap.size ≤ g → HG m w ((g, #[u], t) :: l) W1 → wpList P ops Q rest (a.put o.dst (.pointer (some ⟨g, 0, none⟩))) W1) : wpList P ops Q (o :: rest) a W := by
  refine event_runW hgd ?_ (h _ _ H.below.size (H.alloc #[u] t))
  unfold execOp
  rw [ho]; simp only [hx]
  unfold Instr.box newVar
  rw [hu]; rfl
theorem hb_alloc1 (hgd : Region.wanted o (yielded ops a.tmps) = true) (ho : o.op = .alloc t) (H : HG m w l W) (hz : ∀ w, (zeroValue t).run P w = .ok u w) (hu : u.cells = #[u])
    (h : ∀ g W1, w.heap.size ≤ g → HG m w ((g, #[u], t) :: l) W1 → wpList P ops Q rest (a.put o.dst (.pointer (some ⟨g, 0, none⟩))) W1) : wpList P ops Q (o :: rest) a W := by
  refine event_runW hgd ?_ (h _ _ H.below.size (H.alloc #[u] t))
  unfold execOp
  rw [ho]
  simp only [Instr.alloc, Sem.run_bind, hz, Result.andThen_ok]
  unfold newVar
  rw [hu]; rfl
end
def RowAt (w : World) (ad : Addr) (cs : List Value) : Prop := ∀ j v, cs[j]? = some v → w.cell? (ad.add j) = some v
theorem HB.of {w W : World} (h : Below w.heap.size w W) : HB w [] W := ⟨h, by simp, .nil, Nat.le_refl _, fun k hk _ => h.block k hk⟩
theorem RowAt.kept {w W : World} {ad : Addr} {cs : List Value} (h : RowAt w ad cs) (hB : Below w.heap.size w W) : RowAt W ad cs := fun j v hj => (hB.cell (World.block_lt_of_cell? w _ (h j v hj))).trans (h j v hj)
section
variable {P : Program} {ops : Array Oper} {Q : Exit → Act → World → Prop} {rest : List Oper} {o : Oper} {a : Act} {w W : World} {l : Bs} {t : TypeId} {x : Operand} {d : TypeDesc}
theorem hb_elem (hgd : Region.wanted o (yielded ops a.tmps) = true) (ho : o.op = .load t x) {ad : Addr} {cs : List Value} (hr : RowAt W ad cs) (hx : a.eval x = .pointer (some ad)) (hu : P.underlying t = some d) (hd : d.aggB = true) (hi : (P.info? t).map (·.size) = some cs.length)
    (h : wpList P ops Q rest (a.put o.dst (.agg cs.toArray)) W) : wpList P ops Q (o :: rest) a W := by
  refine event_runW hgd ?_ h
  unfold execOp
  rw [ho]
  have hl := run_loadCells_list (P := P) (w := W) ad cs hr
  obtain ⟨q, hq⟩ := Option.map_eq_some_iff.1 hi
  cases d <;> simp [TypeDesc.aggB] at hd <;> simp [hx, Instr.loadAt, Instr.sureAddr, loadVar, isAgg, run_underlying hu, sizeOf, typeInfo, hq.1, hq.2, hl]
end
theorem row33 {w : World} {A : Option Addr} {n : Nat} {xs : List PAuditNames.S33} (h : Kd.C PAuditNames.k33 w A n xs) (i : Nat) (hi : i < n) (hl : i < xs.length) : ∃ ad, A = some ad ∧ RowAt w (ad.add (i * 3)) [.int .i64 xs[i].f0, .int .i64 xs[i].f1, .int .i64 xs[i].f2] := by
  obtain ⟨ad, c, e, _, hK, hc0⟩ := Kd.C_get h PAuditNames.z33 (i : Int) (by omega) (by omega)
  have hc : ∀ j u, c[j]? = some u → w.cell? (ad.add (i * 3 + j)) = some u := hc0
  have he : xs.getD ((i : Int).toNat) PAuditNames.z33 = xs[i] := by simp [List.getD_eq_getElem?_getD, List.getElem?_eq_getElem hl]
  rw [he] at hK
  obtain rfl := PAuditNames.k33_open hK
  refine ⟨ad, e, fun j v hj => ?_⟩
  rw [Addr.add_add]
  exact hc j v hj
section
variable {P : Program} {ops : Array Oper} {Q : Exit → Act → World → Prop} {rest : List Oper} {o : Oper} {a : Act} {w W : World} {l : Bs} {m : Nat} {x y : Operand} {d : TypeDesc}
/-- an append to none -/
theorem hb_append0 {t tx e e' : TypeId} {z : Value} {size bytes : Nat} {ad : Addr} {n c : Nat} {news : List Value} (hgd : Region.wanted o (yielded ops a.tmps) = true) (ho : o.op = .call { callee := .builtin .append, args := #[x, y], argTypes := #[t, tx] }) (H : HG m w l W)
    (ht : P.underlying t = some (.slice e)) (htx : P.underlying tx = some (.slice e')) (hinfo : (P.info? e).map (fun i => (i.zero, i.size, i.bytes)) = some (some z, size, bytes)) (hx : a.eval x = .slice none 0 0) (hy : a.eval y = .slice (some ad) n c) (hr : RowAt W ad news) (hl : news.length = n * size) (h1 : ∀ u ∈ news, u.oneCell' = true) (h0 : 0 < n) (hn : (n : Int) ≤ 9223372036854775807) (hb : n * bytes ≤ 281474976710656)
    (h : ∀ g c' zs W1, w.heap.size ≤ g → HG m w ((g, (news ++ zs).toArray, e) :: l) W1 → wpList P ops Q rest (a.put o.dst (.slice (some ⟨g, 0, none⟩) n c')) W1) : wpList P ops Q (o :: rest) a W := by
  obtain ⟨i, hi, hzz⟩ := Option.map_eq_some_iff.1 hinfo
  simp only [Prod.mk.injEq] at hzz
  obtain ⟨hz, rfl, rfl⟩ := hzz
  have hs : Src P i.size tx (.slice (some ad) n c) n news W := Src.ofSlice W htx ad n c news hl hr h1
  have hrun := run_append_grow_src (P := P) W t tx o.type e i z ht hi hz none 0 0 [] (run_firstCells_none _ _ _ _ _) _ n news hs (by omega) (by omega) (by rw [Nat.zero_add, nextslicecap_zero h0]; exact hb)
  rw [List.nil_append, Nat.zero_add] at hrun
  unfold wpList
  rw [if_pos hgd]
  refine .inl ?_
  unfold Oper.wp execOp
  simp only [ho, resolve, invoke, builtin, Sem.run_bind, Sem.run_pure, Result.andThen_ok, List.map_toArray, List.map_cons, List.map_nil, hx, hy, hrun]
  have h2 := H.drew.alloc (news.toArray ++ Builtin.zeroCells z.cells (grownCap W n 0 e - n)) e
  have e1 : news.toArray ++ Builtin.zeroCells z.cells (grownCap W n 0 e - n) = (news ++ (Builtin.zeroCells z.cells (grownCap W n 0 e - n)).toList).toArray := by
    apply Array.ext'; simp
  rw [e1] at h2 ⊢
  exact h _ _ _ _ H.below.size h2
end
end Go.Proofs.YtkbjlaknhedekaaDoor.Sm
