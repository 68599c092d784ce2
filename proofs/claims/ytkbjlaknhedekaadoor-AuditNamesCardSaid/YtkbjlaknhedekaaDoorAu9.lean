/- The law's own example: a node that two have. Conditions: those that each theorem states. -/
import Derived.Test.YtkbjlaknhedekaaDoorAu7
import Derived.Test.YtkbjlaknhedekaaDoorAu8
import Derived.Great.BuildSlice
set_option linter.unusedVariables false
set_option linter.unusedSimpArgs false
/- The law's own example: a node that two have. -/
namespace Go.Proofs.YtkbjlaknhedekaaDoor.Sm
open Go Go.Proofs Go.RowKit Go.Proofs.BitsPlain Go.Proofs.YtkbjlaknhedekaaDoorW.PrintWords Go.Proofs.YtkbjlaknhedekaaDoorW.PrintLast Go.Proofs.YtkbjlaknhedekaaDoorW.PrintMore Go.Proofs.YtkbjlaknhedekaaDoor.PAuditNames
section
variable {P : Program} {ops : Array Oper} {Q : Exit → Act → World → Prop} {rest : List Oper} {r : Lx} {o : Oper} {a : Act} {w W W1 : World} {l : Bs} {g i j k n m sz : Nat} {cells : Array Value} {t e : TypeId} {x y : Operand} {v z : Value} {ps : Array (Nat × Operand)}
theorem gate_bs (_ho : o.op = .buildSlice t n ps) (h : wpList P ops Q (o :: rest) a W) : wpList P ops Q (o :: rest) a W := h
theorem hb_buildSlice (hgd : Region.wanted o (yielded ops a.tmps) = true) (ho : o.op = .buildSlice t n ps) (H : HG m w l W) (hu : P.underlying t = some (.slice e)) (hinfo : (P.info? e).map (fun i => (i.zero, i.size)) = some (some z, sz)) (hsm : ¬ n * sz > 2 ^ 24) (hpos : ¬ n * sz = 0)
    (hf : Instr.fill (fun i => some (i * sz, sz)) ((Array.range (n * sz)).map (z.cells[· % z.cells.size]!)) (ps.map fun (i, x) => (i, a.eval x)).toList = some cells)
    (h : ∀ g W1, w.heap.size ≤ g → HG m w ((g, cells, e) :: l) W1 → wpList P ops Q rest (a.put o.dst (.slice (some ⟨g, 0, none⟩) n n)) W1) : wpList P ops Q (o :: rest) a W := by
  obtain ⟨ie, hie, hzz⟩ := Option.map_eq_some_iff.1 hinfo
  simp only [Prod.mk.injEq] at hzz
  obtain ⟨hz, rfl⟩ := hzz
  refine event_runW hgd ?_ (h _ _ H.below.size (H.alloc cells e))
  unfold execOp
  rw [ho]
  simp only [run_buildSlice W t e n _ cells ie z hu hie hz hsm hpos hf, Sem.run_bind, Result.andThen_ok]
  rfl
theorem lex_effV {S : World → Prop} {N : Tmp} (hi : ops[j]? = some o) (hg : Region.wanted o (yielded ops a.tmps) = true) (hN : o.dst = some N) (hrun : (execOp a.eval o).run P W = .ok (.value v) W1) (hS : S W1) (h : wpLex P ops Q S r (a.put (some N) v) W1) : wpLex P ops Q S (.e j r) a W := by
  refine lex_eff hi hg fun K hK => ?_
  unfold Oper.wp
  rw [hrun]
  show K (a.put o.dst v) W1
  rw [hN]
  exact hK _ _ hS h
theorem lex_pureE {S : World → Prop} {N : Tmp} {a' : Act} (hi : ops[j]? = some o) (hN : o.dst = some N) (hg : Region.wanted o (yielded ops a.tmps) = true) (hrun : (execOp a.eval o).run P W = .ok (.value v) W) (ha : a.put (some N) v = a') (hS : S W) (h : wpLex P ops Q S r a' W) : wpLex P ops Q S (.e j r) a W := by
  subst ha
  exact lex_effV hi hg hN hrun hS h
theorem lex_storeL {S : World → Prop} {A : Option Addr} {c0 c1 : Nat} {cs : Array Value} {t0 : TypeId} (hi : ops[j]? = some o) (hg : Region.wanted o (yielded ops a.tmps) = true) (ho : o.op = .store t x y) (hN : o.dst = none) (H : HG m w l W) (hx : a.eval x = .pointer (some ⟨g, i, none⟩)) (hk : l[k]? = some (g, cs, t0)) (hy : a.eval y = .slice A c0 c1) (hsz : (P.info? t).map (·.size) = some 1) (hn : decide (i < cs.size) = true)
    (hS : ∀ W1, HG m w (l.set k (g, cs.setIfInBounds i (.slice A c0 c1), t0)) W1 → S W1)
    (h : ∀ W1, HG m w (l.set k (g, cs.setIfInBounds i (.slice A c0 c1), t0)) W1 → wpLex P ops Q S r a W1) : wpLex P ops Q S (.e j r) a W := lex_store hi hg ho hN H hx hk hy rfl rfl hsz (of_decide_eq_true hn) hS h
theorem lex_buildSlice {S : World → Prop} {N : Tmp} (hi : ops[j]? = some o) (hg : Region.wanted o (yielded ops a.tmps) = true) (hN : o.dst = some N) (ho : o.op = .buildSlice t n ps) (H : HG m w l W) (hu : P.underlying t = some (.slice e)) (hinfo : (P.info? e).map (fun i => (i.zero, i.size)) = some (some z, sz)) (hsm : ¬ n * sz > 2 ^ 24) (hpos : ¬ n * sz = 0)
    (hf : Instr.fill (fun i => some (i * sz, sz)) ((Array.range (n * sz)).map (z.cells[· % z.cells.size]!)) (ps.map fun (i, x) => (i, a.eval x)).toList = some cells) (hS : ∀ W, S W)
    (h : ∀ g W1, w.heap.size ≤ g → HG m w ((g, cells, e) :: l) W1 → wpLex P ops Q S r (a.put (some N) (.slice (some ⟨g, 0, none⟩) n n)) W1) : wpLex P ops Q S (.e j r) a W := by
  obtain ⟨ie, hie, hzz⟩ := Option.map_eq_some_iff.1 hinfo
  simp only [Prod.mk.injEq] at hzz
  obtain ⟨hz, rfl⟩ := hzz
  refine lex_effV hi hg hN ?_ (hS _) (h _ _ H.below.size (H.alloc cells e))
  unfold execOp
  rw [ho]
  simp only [run_buildSlice W t e n _ cells ie z hu hie hz hsm hpos hf, Sem.run_bind, Result.andThen_ok]
  rfl
/-- an append to none -/
theorem lex_append0 {S : World → Prop} {N : Tmp} {tx e' : TypeId} {size bytes : Nat} {ad : Addr} {c : Nat} {news : List Value} (hi : ops[j]? = some o) (hg : Region.wanted o (yielded ops a.tmps) = true) (hN : o.dst = some N) (ho : o.op = .call { callee := .builtin .append, args := #[x, y], argTypes := #[t, tx] }) (H : HG m w l W)
    (ht : P.underlying t = some (.slice e)) (htx : P.underlying tx = some (.slice e')) (hinfo : (P.info? e).map (fun i => (i.zero, i.size, i.bytes)) = some (some z, size, bytes)) (hx : a.eval x = .slice none 0 0) (hy : a.eval y = .slice (some ad) n c) (hr : RowAt W ad news) (hl : news.length = n * size) (h1 : ∀ u ∈ news, u.oneCell' = true) (h0 : 0 < n) (hn : (n : Int) ≤ 9223372036854775807) (hb : n * bytes ≤ 281474976710656) (hS : ∀ W, S W)
    (h : ∀ g c' zs W1, w.heap.size ≤ g → n ≤ c' → HG m w ((g, (news ++ zs).toArray, e) :: l) W1 → wpLex P ops Q S r (a.put (some N) (.slice (some ⟨g, 0, none⟩) n c')) W1) : wpLex P ops Q S (.e j r) a W := by
  obtain ⟨i, hi', hzz⟩ := Option.map_eq_some_iff.1 hinfo
  simp only [Prod.mk.injEq] at hzz
  obtain ⟨hz, rfl, rfl⟩ := hzz
  have hs : Src P i.size tx (.slice (some ad) n c) n news W := Src.ofSlice W htx ad n c news hl hr h1
  have hrun := run_append_grow_src (P := P) W t tx o.type e i z ht hi' hz none 0 0 [] (run_firstCells_none _ _ _ _ _) _ n news hs (by omega) (by omega) (by rw [Nat.zero_add, nextslicecap_zero h0]; exact hb)
  rw [List.nil_append, Nat.zero_add] at hrun
  have h2 := H.drew.alloc (news.toArray ++ Builtin.zeroCells z.cells (grownCap W n 0 e - n)) e
  have e1 : news.toArray ++ Builtin.zeroCells z.cells (grownCap W n 0 e - n) = (news ++ (Builtin.zeroCells z.cells (grownCap W n 0 e - n)).toList).toArray := by
    apply Array.ext'; simp
  have hc : n ≤ grownCap W n 0 e := by
    show n ≤ n + _
    omega
  rw [e1] at h2 hrun
  refine lex_effV hi hg hN ?_ (hS _) (h _ _ _ _ H.below.size hc h2)
  unfold execOp
  simp only [ho, resolve, invoke, builtin, Sem.run_bind, Sem.run_pure, Result.andThen_ok, List.map_toArray, List.map_cons, List.map_nil, hx, hy, hrun]
end
theorem gate_c {P : Program} (f : FuncId) {args : Array Value} {w : World} {R : Ending → World → Prop} (h : Calls P f args w R) : Calls P f args w R := h
theorem with3 : bits_Set_With.f 0 3 = some 8 := by kernel_rfl
theorem of3_c (g : Nat) (w : World) (hc : w.cell? ⟨g, 0, none⟩ = some (.int .i64 3)) : Calls Tryd.prog 17 #[.slice (some ⟨g, 0, none⟩) 1 1] w fun e w' => e = .returned (.int .u64 8) ∧ Drawn0 w w' := by
  have hu66 := Tryd.underlying66
  go_enter Tryd.func17, Tryd.ntmps17
  go_wp2
  refine wp_loop_rounds 2 ?_
  iterate 2 (rw [rounds_succ]; go_wp2_with (first
   | ((with_reducible refine (bits_Set_With.calls 0 3 8 _ with3).mono ?_); rintro e w2 ⟨rfl, ⟨nd, rfl⟩⟩)))
  go_ret
  exact ⟨rfl, ⟨_, rfl⟩⟩
set_option maxRecDepth 100000 in
set_option maxHeartbeats 4000000 in
theorem busy2_c (A : Option Addr) (c : Nat) (l : List S33) (b cb : Nat) (w : World) (hb : w.heap[b]? = some (.cells #[.int .i64 1, .int .i64 0, .int .i64 0, .int .i64 1, .int .i64 5, .int .i64 0, .int .i64 0, .bool false, .int .i64 1, .int .i64 0, .int .i64 0, .int .i64 0, .int .i64 0, .int .u64 0, .int .u64 8, .int .i64 0, .int .i64 0, .int .i64 2, .int .i64 0, .int .i64 0, .int .i64 1, .int .i64 5, .int .i64 0, .int .i64 0, .bool false, .int .i64 1, .int .i64 0, .int .i64 0, .int .i64 0, .int .i64 0, .int .u64 0, .int .u64 8, .int .i64 0, .int .i64 0] 43 (0, 0))) :
    Calls Tryd.prog 7 #[.agg #[.int .i64 0, .int .i64 0, .slice A l.length c, .slice (some ⟨b, 0, none⟩) 2 cb, .int .i64 0, .int .i64 0, .int .u64 0, .int .u64 0, .bool false, .int .i64 0]] w fun e w' => e = .returned (.int .u64 8) ∧ Below w.heap.size w w' := by
  have hu30 := Tryd.underlying30
  have hu24 := Tryd.underlying24
  have hu43 := Tryd.underlying43
  have H := HB.start w
  have HR1 : Aside0 (RowAt w ⟨b, 0, none⟩ #[.int .i64 1, .int .i64 0, .int .i64 0, .int .i64 1, .int .i64 5, .int .i64 0, .int .i64 0, .bool false, .int .i64 1, .int .i64 0, .int .i64 0, .int .i64 0, .int .i64 0, .int .u64 0, .int .u64 8, .int .i64 0, .int .i64 0].toList) := ⟨rowOf hb rfl⟩
  have HR2 : Aside0 (RowAt w ⟨b, 17, none⟩ #[.int .i64 2, .int .i64 0, .int .i64 0, .int .i64 1, .int .i64 5, .int .i64 0, .int .i64 0, .bool false, .int .i64 1, .int .i64 0, .int .i64 0, .int .i64 0, .int .i64 0, .int .u64 0, .int .u64 8, .int .i64 0, .int .i64 0].toList) := ⟨rowOf hb rfl⟩
  clear hb
  go_enter Tryd.func7, Tryd.ntmps7
  go_wp2_with (first
   | ((with_reducible refine gate_dst (N := 1) rfl ?_); refine hb_box rfl rfl H rfl ?_; intro gv W1 hgv H1; clear H; have H := H1; clear H1)
   | ((with_reducible refine gate_alloc rfl ?_); refine hb_alloc rfl rfl H zero43 ?_; intro gr W1 hgr H1; clear H; have H := H1; clear H1)
   | ((with_reducible refine gate_load rfl ?_); first
      | refine hb_elem rfl rfl (HR1.out.kept H.below) rfl Tryd.underlying43 rfl (by kernel_rfl) ?_
      | refine hb_elem rfl rfl (HR2.out.kept H.below) rfl Tryd.underlying43 rfl (by kernel_rfl) ?_
      | refine hb_load rfl rfl H rfl (k := 0) rfl Tryd.underlying3 rfl rfl ?_
      | refine hb_load rfl rfl H rfl (k := 0) rfl Tryd.underlying26 rfl rfl ?_
      | refine hb_load rfl rfl H rfl (k := 0) rfl Tryd.underlying24 rfl rfl ?_
      | refine hb_load rfl rfl H rfl (k := 1) rfl Tryd.underlying3 rfl rfl ?_
      | refine hb_load rfl rfl H rfl (k := 1) rfl Tryd.underlying26 rfl rfl ?_
      | refine hb_load rfl rfl H rfl (k := 1) rfl Tryd.underlying24 rfl rfl ?_
      | refine hb_load rfl rfl H rfl (k := 2) rfl Tryd.underlying3 rfl rfl ?_
      | refine hb_load rfl rfl H rfl (k := 2) rfl Tryd.underlying26 rfl rfl ?_
      | refine hb_load rfl rfl H rfl (k := 2) rfl Tryd.underlying24 rfl rfl ?_)
   | ((with_reducible refine gate_st rfl ?_); refine hb_storeRow rfl rfl rfl H rfl (k := 0) rfl rfl (by kernel_rfl) rfl (by rfl) ?_; intro W1 H1; clear H; simp only [List.setIfInBounds_toArray, List.set_cons_zero, List.set_cons_succ] at H1; have H := H1; clear H1)
   | ((with_reducible refine (bits_Set_Or.calls 0 8 8 _ or08).mono ?_); rintro e w2 ⟨rfl, B2⟩; replace H := H.drawn B2; clear B2)
   | ((with_reducible refine (bits_Set_Or.calls 8 8 8 _ or88).mono ?_); rintro e w2 ⟨rfl, B2⟩; replace H := H.drawn B2; clear B2))
  refine wp_loop_rounds 3 ?_
  iterate 3 (rw [rounds_succ]; go_wp2_with (first
   | ((with_reducible refine gate_dst (N := 1) rfl ?_); refine hb_box rfl rfl H rfl ?_; intro gv W1 hgv H1; clear H; have H := H1; clear H1)
   | ((with_reducible refine gate_alloc rfl ?_); refine hb_alloc rfl rfl H zero43 ?_; intro gr W1 hgr H1; clear H; have H := H1; clear H1)
   | ((with_reducible refine gate_load rfl ?_); first
      | refine hb_elem rfl rfl (HR1.out.kept H.below) rfl Tryd.underlying43 rfl (by kernel_rfl) ?_
      | refine hb_elem rfl rfl (HR2.out.kept H.below) rfl Tryd.underlying43 rfl (by kernel_rfl) ?_
      | refine hb_load rfl rfl H rfl (k := 0) rfl Tryd.underlying3 rfl rfl ?_
      | refine hb_load rfl rfl H rfl (k := 0) rfl Tryd.underlying26 rfl rfl ?_
      | refine hb_load rfl rfl H rfl (k := 0) rfl Tryd.underlying24 rfl rfl ?_
      | refine hb_load rfl rfl H rfl (k := 1) rfl Tryd.underlying3 rfl rfl ?_
      | refine hb_load rfl rfl H rfl (k := 1) rfl Tryd.underlying26 rfl rfl ?_
      | refine hb_load rfl rfl H rfl (k := 1) rfl Tryd.underlying24 rfl rfl ?_
      | refine hb_load rfl rfl H rfl (k := 2) rfl Tryd.underlying3 rfl rfl ?_
      | refine hb_load rfl rfl H rfl (k := 2) rfl Tryd.underlying26 rfl rfl ?_
      | refine hb_load rfl rfl H rfl (k := 2) rfl Tryd.underlying24 rfl rfl ?_)
   | ((with_reducible refine gate_st rfl ?_); refine hb_storeRow rfl rfl rfl H rfl (k := 0) rfl rfl (by kernel_rfl) rfl (by rfl) ?_; intro W1 H1; clear H; simp only [List.setIfInBounds_toArray, List.set_cons_zero, List.set_cons_succ] at H1; have H := H1; clear H1)
   | ((with_reducible refine (bits_Set_Or.calls 0 8 8 _ or08).mono ?_); rintro e w2 ⟨rfl, B2⟩; replace H := H.drawn B2; clear B2)
   | ((with_reducible refine (bits_Set_Or.calls 8 8 8 _ or88).mono ?_); rintro e w2 ⟨rfl, B2⟩; replace H := H.drawn B2; clear B2)))
  go_ret
  exact ⟨rfl, H.below⟩
theorem info43 : (Tryd.prog.info? 43).map (fun i => (i.zero, i.size)) = some (some (.agg #[.int .i64 0, .int .i64 0, .int .i64 0, .int .i64 0, .int .i64 0, .int .i64 0, .int .i64 0, .bool false, .int .i64 0, .int .i64 0, .int .i64 0, .int .i64 0, .int .i64 0, .int .u64 0, .int .u64 0, .int .i64 0, .int .i64 0]), 17) := by kernel_rfl
theorem info33 : (Tryd.prog.info? 33).map (fun i => (i.zero, i.size)) = some (some (.agg #[.int .i64 0, .int .i64 0, .int .i64 0]), 3) := by kernel_rfl
theorem info33b : (Tryd.prog.info? 33).map (fun i => (i.zero, i.size, i.bytes)) = some (some (.agg #[.int .i64 0, .int .i64 0, .int .i64 0]), 3, 24) := by kernel_rfl
theorem info3 : (Tryd.prog.info? 3).map (fun i => (i.zero, i.size)) = some (some (.int .i64 0), 1) := by kernel_rfl
theorem nodes_C {W : World} {q : Nat} {zs : List Value} (hb : W.heap[q]? = some (.cells ([Value.int .i64 0, .int .i64 0, .int .i64 0, .int .i64 0, .int .i64 0, .int .i64 0, .int .i64 0, .int .i64 0, .int .i64 0, .int .i64 0, .int .i64 0, .int .i64 0] ++ zs).toArray 33 (0, 0))) : Kd.C k33 W (some ⟨q, 0, none⟩) 4 [z33, z33, z33, z33] := by
  refine ⟨rfl, by decide, fun _ => ⟨⟨q, 0, none⟩, rfl, fun j p hj => ⟨[.int .i64 0, .int .i64 0, .int .i64 0], rfl, ?_, fun i u hu => ?_⟩⟩⟩
  · have : p = z33 := by
      match j, hj with
      | 0, hj => simpa using hj.symm
      | 1, hj => simpa using hj.symm
      | 2, hj => simpa using hj.symm
      | 3, hj => simpa using hj.symm
      | j + 4, hj => simp at hj
    subst this
    exact k33_mk W z33
  · have hr : RowAt W ⟨q, j * 3, none⟩ [.int .i64 0, .int .i64 0, .int .i64 0] := by
      match j, hj with
      | 0, _ => exact rowOf hb rfl
      | 1, _ => exact rowOf hb rfl
      | 2, _ => exact rowOf hb rfl
      | 3, _ => exact rowOf hb rfl
      | j + 4, hj => simp at hj
    have := hr i u hu
    have e1 : (⟨q, j * 3, none⟩ : Addr).add i = (⟨q, 0, none⟩ : Addr).add (j * 3 + i) := by unfold Addr.add; split <;> split <;> simp_all
    rwa [e1] at this
theorem text2_c (w : World) : Calls Tryd.prog 4 #[.int .i64 2] w fun e w' => e = .returned (.string (⟨#[116, 119, 105, 99, 101]⟩ : ByteArray)) ∧ Below w.heap.size w w' := text_c 2 w
theorem zero30 (w : World) : (zeroValue 30).run Tryd.prog w = .ok (.agg #[.int .i64 0, .int .i64 0, .slice none 0 0, .slice none 0 0, .int .i64 0, .int .i64 0, .int .u64 0, .int .u64 0, .bool false, .int .i64 0]) w := by kernel_rfl
set_option maxRecDepth 100000 in
set_option maxHeartbeats 4000000 in
theorem one_c (w : World) (hT : Tab w) : Calls Tryd.prog 8 #[] w fun e w' => e = .returned (.bool true) ∧ Below w.heap.size w w' := by
  have hu30 := Tryd.underlying30
  have hu24 := Tryd.underlying24
  have hu43 := Tryd.underlying43
  have hu23 := Tryd.underlying23
  have hu33 := Tryd.underlying33
  have hu48 := Tryd.underlying48
  have H := HB.start w
  have HT := Aside0.mk hT
  clear hT
  go_enter Tryd.func8, Tryd.ntmps8
  go_wp2_with (first
   | ((with_reducible refine gate_bs rfl ?_); first
      | (refine hb_buildSlice (cells := #[.int .i64 3]) rfl rfl H Tryd.underlying66 info3 (by decide) (by decide) (by kernel_rfl) ?_; intro g3 W1 hg3 H1; clear H; have H := H1; clear H1)
      | (refine hb_buildSlice (cells := #[.int .i64 1, .int .i64 0, .int .i64 0, .int .i64 1, .int .i64 5, .int .i64 0, .int .i64 0, .bool false, .int .i64 1, .int .i64 0, .int .i64 0, .int .i64 0, .int .i64 0, .int .u64 0, .int .u64 8, .int .i64 0, .int .i64 0, .int .i64 2, .int .i64 0, .int .i64 0, .int .i64 1, .int .i64 5, .int .i64 0, .int .i64 0, .bool false, .int .i64 1, .int .i64 0, .int .i64 0, .int .i64 0, .int .i64 0, .int .u64 0, .int .u64 8, .int .i64 0, .int .i64 0]) rfl rfl H Tryd.underlying24 info43 (by decide) (by decide) (by kernel_rfl) ?_; intro gb W1 hgb H1; clear H; have H := H1; clear H1))
   | ((with_reducible refine (of3_c _ _ ((blk_cell (H.get (k := 0) rfl) 0).trans rfl)).mono ?_); rintro e w2 ⟨rfl, B2⟩; replace H := H.drawn B2; clear B2)
   | ((with_reducible refine gate_alloc rfl ?_); first
      | ((with_reducible refine gate_dst (N := 1) rfl ?_); refine hb_alloc rfl rfl H zero43 ?_; intro gj W1 hgj H1; clear H; have H := H1; clear H1)
      | ((with_reducible refine gate_dst (N := 2) rfl ?_); refine hb_alloc rfl rfl H zero43 ?_; intro gk W1 hgk H1; clear H; have H := H1; clear H1)
      | (refine hb_alloc rfl rfl H zero30 ?_; intro gV W1 hgV H1; clear H; have H := H1; clear H1))
   | ((with_reducible refine gate_load rfl ?_); first
      | refine hb_loadRow rfl rfl H rfl (k := 0) rfl Tryd.underlying43 rfl (by kernel_rfl) ?_
      | refine hb_loadRow rfl rfl H rfl (k := 1) rfl Tryd.underlying43 rfl (by kernel_rfl) ?_
      | refine hb_loadRow rfl rfl H rfl (k := 2) rfl Tryd.underlying43 rfl (by kernel_rfl) ?_)
   | ((with_reducible refine gate_st rfl ?_); first
      | (refine hb_storeRow rfl rfl rfl H rfl (k := 0) rfl rfl (by kernel_rfl) rfl (by rfl) ?_; intro W1 H1; clear H; simp only [List.setIfInBounds_toArray, List.set_cons_zero, List.set_cons_succ] at H1; have H := H1; clear H1)
      | (refine hb_storeI rfl rfl rfl H rfl (k := 0) rfl rfl (by kernel_rfl) rfl ?_; intro W1 H1; clear H; simp only [List.setIfInBounds_toArray, List.set_cons_zero, List.set_cons_succ] at H1; have H := H1; clear H1)))
  try simp only [Act.put, List.setIfInBounds_toArray, List.set_cons_zero, List.set_cons_succ]
  go_cut [3] from 14 to 45 (fun v3 wc => v3 = .pointer (some ⟨gV, 0, none⟩) ∧ ∃ q g12 c' zs, 4 ≤ c' ∧ Aside0 (HG w.heap.size w [(q, ([Value.int .i64 0, .int .i64 0, .int .i64 0, .int .i64 0, .int .i64 0, .int .i64 0, .int .i64 0, .int .i64 0, .int .i64 0, .int .i64 0, .int .i64 0, .int .i64 0] ++ zs).toArray, 33), (g12, #[.int .i64 0, .int .i64 0, .int .i64 0, .int .i64 0, .int .i64 0, .int .i64 0, .int .i64 0, .int .i64 0, .int .i64 0, .int .i64 0, .int .i64 0, .int .i64 0], 33), (gV, #[.int .i64 0, .int .i64 0, .slice (some ⟨q, 0, none⟩) 4 c', .slice (some ⟨gb, 0, none⟩) 2 2, .int .i64 0, .int .i64 0, .int .u64 0, .int .u64 0, .bool false, .int .i64 0], 30), (gb, #[.int .i64 1, .int .i64 0, .int .i64 0, .int .i64 1, .int .i64 5, .int .i64 0, .int .i64 0, .bool false, .int .i64 1, .int .i64 0, .int .i64 0, .int .i64 0, .int .i64 0, .int .u64 0, .int .u64 8, .int .i64 0, .int .i64 0, .int .i64 2, .int .i64 0, .int .i64 0, .int .i64 1, .int .i64 5, .int .i64 0, .int .i64 0, .bool false, .int .i64 1, .int .i64 0, .int .i64 0, .int .i64 0, .int .i64 0, .int .u64 0, .int .u64 8, .int .i64 0, .int .i64 0], 43), (gk, #[.int .i64 2, .int .i64 0, .int .i64 0, .int .i64 1, .int .i64 5, .int .i64 0, .int .i64 0, .bool false, .int .i64 1, .int .i64 0, .int .i64 0, .int .i64 0, .int .i64 0, .int .u64 0, .int .u64 8, .int .i64 0, .int .i64 0], 43), (gj, #[.int .i64 1, .int .i64 0, .int .i64 0, .int .i64 1, .int .i64 5, .int .i64 0, .int .i64 0, .bool false, .int .i64 1, .int .i64 0, .int .i64 0, .int .i64 0, .int .i64 0, .int .u64 0, .int .u64 8, .int .i64 0, .int .i64 0], 43), (g3, #[.int .i64 3], 3)] wc))
  case first =>
    refine wp_calm ?_
    (refine lex_start (S := fun _ => True) (.t 0 (.b 1 2 (.e 2 (.e 3 (.e 4 (.e 5 (.e 6 (.e 7 (.t 8 (.e 9 .n)))))))) (.b 1 3 (.e 3 (.e 4 (.e 5 (.e 6 (.e 7 (.t 8 (.e 9 .n))))))) (.b 1 4 (.e 4 (.e 5 (.e 6 (.e 7 (.t 8 (.e 9 .n)))))) (.b 1 5 (.e 5 (.e 6 (.e 7 (.t 8 (.e 9 .n))))) (.b 1 6 (.e 6 (.e 7 (.t 8 (.e 9 .n)))) (.e 1 (.e 7 (.t 8 (.e 9 .n)))))))))) (by kernel_rfl) (by decide +kernel) (trivial) (fun _ _ d _ _ h => by cases d <;> exact h) (fun _ => ?_)); replace H := H.drew
    repeat' (first
   | (refine lex_two ?_ ?_)
   | (first
      | refine lex_pureE rfl rfl rfl (run_hload rfl rfl (H.get (k := 0) rfl) Tryd.underlying23 rfl rfl) (by simp only [Act.put, List.setIfInBounds_toArray, List.set_cons_zero, List.set_cons_succ]; rfl) trivial ?_
      | refine lex_pureE rfl rfl rfl (run_hload rfl rfl (H.get (k := 1) rfl) Tryd.underlying23 rfl rfl) (by simp only [Act.put, List.setIfInBounds_toArray, List.set_cons_zero, List.set_cons_succ]; rfl) trivial ?_)
   | (refine lex_call rfl rfl rfl rfl Tryd.func18 (by kernel_rfl) rfl (by simp only [List.map_toArray, List.map_cons, List.map_nil]; rfl) ?_; refine (berthinglaw29_node.calls 0 0 0 _ rfl).mono ?_; rintro e w2 ⟨rfl, B2⟩; replace H := H.call B2; clear B2; refine ⟨_, rfl, trivial, ?_⟩)
   | (refine lex_buildSlice (cells := #[.int .i64 0, .int .i64 0, .int .i64 0, .int .i64 0, .int .i64 0, .int .i64 0, .int .i64 0, .int .i64 0, .int .i64 0, .int .i64 0, .int .i64 0, .int .i64 0]) rfl rfl rfl rfl H Tryd.underlying23 info33 (by decide) (by decide) (by kernel_rfl) (fun _ => trivial) ?_; intro g12 W1 hg12 H1; clear H; have H := H1; clear H1)
   | (refine lex_append0 (news := [.int .i64 0, .int .i64 0, .int .i64 0, .int .i64 0, .int .i64 0, .int .i64 0, .int .i64 0, .int .i64 0, .int .i64 0, .int .i64 0, .int .i64 0, .int .i64 0]) rfl rfl rfl rfl H Tryd.underlying23 Tryd.underlying23 info33b rfl rfl (rowOf (H.get (k := 0) rfl) rfl) rfl (by simp [Value.oneCell']) (by omega) (by omega) (by decide) (fun _ => trivial) ?_; intro q c1 zs W1 hq hcq H1; have HCQ := Aside0.mk hcq; clear H hcq; have H := H1; clear H1)
   | (refine lex_storeL rfl rfl rfl rfl H rfl (k := 2) rfl rfl (by kernel_rfl) rfl (fun _ _ => trivial) ?_; intro W1 H1; clear H; simp only [List.setIfInBounds_toArray, List.set_cons_zero, List.set_cons_succ] at H1; have H := H1; clear H1)
   | (refine lexg_pure ?_; refine lex_pure rfl rfl rfl (by intro W1 h1; go_simp; with_reducible rfl) (by simp only [Act.put, List.setIfInBounds_toArray, List.set_cons_zero, List.set_cons_succ]; rfl) ?_))
    all_goals
      refine lex_done ?_
      go_wp2_with fail
      go_meet
      case rel => exact ⟨rfl, _, _, _, _, HCQ.out, ⟨H⟩⟩
  case rest =>
  obtain ⟨rfl, q, g12, c', zs, hc4, HX⟩ := hcut
  have H := HX.out
  clear HX
  have C5 := Aside0.mk (fun W (hq : W.heap[q]? = some (.cells ([Value.int .i64 0, .int .i64 0, .int .i64 0, .int .i64 0, .int .i64 0, .int .i64 0, .int .i64 0, .int .i64 0, .int .i64 0, .int .i64 0, .int .i64 0, .int .i64 0] ++ zs).toArray 33 (0, 0))) (hb : W.heap[gb]? = some (.cells #[.int .i64 1, .int .i64 0, .int .i64 0, .int .i64 1, .int .i64 5, .int .i64 0, .int .i64 0, .bool false, .int .i64 1, .int .i64 0, .int .i64 0, .int .i64 0, .int .i64 0, .int .u64 0, .int .u64 8, .int .i64 0, .int .i64 0, .int .i64 2, .int .i64 0, .int .i64 0, .int .i64 1, .int .i64 5, .int .i64 0, .int .i64 0, .bool false, .int .i64 1, .int .i64 0, .int .i64 0, .int .i64 0, .int .i64 0, .int .u64 0, .int .u64 8, .int .i64 0, .int .i64 0] 43 (0, 0))) (hT : Tab W) => (check1_c (some ⟨q, 0, none⟩) c' [z33, z33, z33, z33] gb 2 W hb hT (nodes_C hq) hc4 rfl (by kernel_rfl) : Calls Tryd.prog 5 #[.agg #[.int .i64 0, .int .i64 0, .slice (some ⟨q, 0, none⟩) 4 c', .slice (some ⟨gb, 0, none⟩) 2 2, .int .i64 0, .int .i64 0, .int .u64 0, .int .u64 0, .bool false, .int .i64 0]] W fun e w' => ∃ q c' zs, e = .returned (.slice (some ⟨q, 0, none⟩) 1 c') ∧ w'.heap[q]? = some (.cells ([.int .i64 2, .int .i64 2, .int .i64 3] ++ zs).toArray 48 (0, 0)) ∧ Below W.heap.size W w'))
  have C7 := Aside0.mk (fun W (hb : W.heap[gb]? = some (.cells #[.int .i64 1, .int .i64 0, .int .i64 0, .int .i64 1, .int .i64 5, .int .i64 0, .int .i64 0, .bool false, .int .i64 1, .int .i64 0, .int .i64 0, .int .i64 0, .int .i64 0, .int .u64 0, .int .u64 8, .int .i64 0, .int .i64 0, .int .i64 2, .int .i64 0, .int .i64 0, .int .i64 1, .int .i64 5, .int .i64 0, .int .i64 0, .bool false, .int .i64 1, .int .i64 0, .int .i64 0, .int .i64 0, .int .i64 0, .int .u64 0, .int .u64 8, .int .i64 0, .int .i64 0] 43 (0, 0))) => (busy2_c (some ⟨q, 0, none⟩) c' [z33, z33, z33, z33] gb 2 W hb : Calls Tryd.prog 7 #[.agg #[.int .i64 0, .int .i64 0, .slice (some ⟨q, 0, none⟩) 4 c', .slice (some ⟨gb, 0, none⟩) 2 2, .int .i64 0, .int .i64 0, .int .u64 0, .int .u64 0, .bool false, .int .i64 0]] W fun e w' => e = .returned (.int .u64 8) ∧ Below W.heap.size W w'))
  go_wp2_with (first
   | ((with_reducible refine gate_bs rfl ?_); (refine hb_buildSlice (cells := #[.int .i64 3]) rfl rfl H Tryd.underlying66 info3 (by decide) (by decide) (by kernel_rfl) ?_; intro g9 W1 hg9 H1; clear H; have H := H1; clear H1))
   | ((with_reducible refine (of3_c _ _ ((blk_cell (H.get (k := 0) rfl) 0).trans rfl)).mono ?_); rintro e w2 ⟨rfl, B2⟩; replace H := H.drawn B2; clear B2)
   | ((with_reducible refine gate_c 5 ?_); refine (C5.out _ (H.get (k := 0) rfl) (H.get (k := 3) rfl) (HT.out.go H.below)).mono ?_; rintro e w2 ⟨q2, c2, zs2, rfl, hq2, B2⟩; replace H := H.call B2; have HQ2 := Aside0.mk hq2; clear B2 hq2)
   | ((with_reducible refine gate_c 7 ?_); refine (C7.out _ (H.get (k := 3) rfl)).mono ?_; rintro e w2 ⟨rfl, B2⟩; replace H := H.call B2; clear B2)
   | ((with_reducible refine (text2_c _).mono ?_); rintro e w2 ⟨rfl, B2⟩; replace H := H.call B2; clear B2)
   | ((with_reducible refine gate_load rfl ?_); first
      | refine hb_loadRow rfl rfl H rfl (k := 2) rfl Tryd.underlying30 rfl (by kernel_rfl) ?_
      | refine hb_elem rfl rfl (rowOf (vs := [.int .i64 2, .int .i64 2, .int .i64 3]) HQ2.out rfl) rfl Tryd.underlying48 rfl (by kernel_rfl) ?_))
  exact bodyPost_ret (results_tmp rfl _ _ _) rfl ⟨rfl, H.below⟩
end Go.Proofs.YtkbjlaknhedekaaDoor.Sm
