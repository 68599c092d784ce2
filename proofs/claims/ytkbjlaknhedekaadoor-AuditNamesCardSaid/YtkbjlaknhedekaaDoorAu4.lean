/- A job that runs, looked at: the concrete jobs of the law's own example. Conditions: those that each theorem states. -/
import Derived.Test.YtkbjlaknhedekaaDoorAuG
set_option linter.unusedVariables false
set_option linter.unusedSimpArgs false
/- A job that runs, looked at: the concrete jobs of the law's own example. -/
namespace Go.Proofs.YtkbjlaknhedekaaDoor.Sm
open Go Go.Proofs Go.RowKit Go.Proofs.BitsPlain Go.Proofs.YtkbjlaknhedekaaDoorW.PrintWords Go.Proofs.YtkbjlaknhedekaaDoorW.PrintLast Go.Proofs.YtkbjlaknhedekaaDoorW.PrintMore Go.Proofs.YtkbjlaknhedekaaDoor.PAuditNames
section
variable {P : Program} {ops : Array Oper} {Q : Exit → Act → World → Prop} {r : Lx} {o : Oper} {a : Act} {w W : World} {j : Nat}
theorem lex_callV {S : World → Prop} {N : Tmp} {f : FuncId} {fn : Func} {x : Operand} {xs : Array Operand} {ts : Array TypeId} {args caps : Array Value} (hi : ops[j]? = some o) (hg : Region.wanted o (yielded ops a.tmps) = true) (hN : o.dst = some N) (hop : o.op = .call { callee := .value x, args := xs, argTypes := ts }) (hxv : a.eval x = .func (.func f) #[] caps) (hf : P.funcs[f]? = some fn) (hname : (fn.name == "runtime.NumGoroutine") = false) (hb : fn.body.isSome = true) (hargs : xs.map a.eval = args)
    (h : Calls P f (args ++ caps) W fun e w' => ∃ v, e = .returned v ∧ S w' ∧ wpLex P ops Q S r (a.put (some N) v) w') : wpLex P ops Q S (.e j r) a W := by
  refine lex_eff hi hg fun K hK => ?_
  have he := enters_ hf hname hb (args ++ caps) W
  have hrun : (execOp a.eval o).run P W = .ok (.enter f (args ++ caps)) W := by
    unfold execOp
    simp [hop, resolve, hxv, Deferred.ofValue, invoke, hargs, he]
  unfold Oper.wp
  rw [hrun, Oper.upon_enter]
  refine h.mono fun e w'' hh => ?_
  obtain ⟨v, rfl, h1, h2⟩ := hh
  show K (a.put o.dst v) w''
  rw [hN]
  exact hK _ _ h1 h2
end
theorem wp_calm {P : Program} {c : Code} {K : Act → World → Prop} {Q' : Exit → Act → World → Prop} {a : Act} {w : World} (h : c.wp P (Exit.then K (fun _ _ _ => False)) a w) : c.wp P (Exit.then K Q') a w :=
  wp_mono h fun e a w hh => by cases e <;> first | exact hh | exact hh.elim
theorem bd_len8 : bits_Set_Len.f 8 = some 1 := by kernel_rfl
theorem zero26 (w : World) : (zeroValue 26).run Tryd.prog w = .ok (.int .u64 0) w := by kernel_rfl
theorem zero3 (w : World) : (zeroValue 3).run Tryd.prog w = .ok (.int .i64 0) w := by kernel_rfl
section
variable {P : Program} {ops : Array Oper} {Q : Exit → Act → World → Prop} {r : Lx} {o : Oper} {a : Act} {w W : World} {j m : Nat} {l : Bs} {t : TypeId} {u : Value}
theorem lex_alloc1 {S : World → Prop} {N : Tmp} (hi : ops[j]? = some o) (hg : Region.wanted o (yielded ops a.tmps) = true) (hN : o.dst = some N) (ho : o.op = .alloc t) (H : HG m w l W) (hz : ∀ w, (zeroValue t).run P w = .ok u w) (hu : u.cells = #[u]) (hS : ∀ W1, HG m w ((W.heap.size, #[u], t) :: l) W1 → S W1)
    (h : ∀ g W1, w.heap.size ≤ g → HG m w ((g, #[u], t) :: l) W1 → wpLex P ops Q S r (a.put (some N) (.pointer (some ⟨g, 0, none⟩))) W1) : wpLex P ops Q S (.e j r) a W := by
  refine lex_eff hi hg fun K hK => ?_
  have hrun : (execOp a.eval o).run P W = .ok (.value (.pointer (some ⟨W.heap.size, 0, none⟩))) (W.alloc (.cells #[u] t (0, 0))) := by
    unfold execOp
    rw [ho]
    simp only [Instr.alloc, Sem.run_bind, hz, Result.andThen_ok]
    unfold newVar
    rw [hu]; rfl
  unfold Oper.wp
  rw [hrun]
  show K (a.put o.dst _) _
  rw [hN]
  have H1 := H.alloc #[u] t
  exact hK _ _ (hS _ H1) (h _ _ H.below.size H1)
end
theorem all_g {m : Nat} {w W : World} {l : Bs} (H : HG m w l W) : Calls Tryd.prog 20 #[.int .u64 8] W fun e W' => ∃ gb, e = .returned (.func (.func 30) #[] #[.pointer (some ⟨gb, 0, none⟩)]) ∧ w.heap.size ≤ gb ∧ HG m w ((gb, #[.int .u64 8], 26) :: l) W' :=
  (all_calls 8 W).mono fun e W' h => by
    obtain ⟨rfl, rfl⟩ := h
    exact ⟨_, rfl, H.below.size, H.alloc _ _⟩
/-- what a look at the example's job leaves -/
def XOk (g n0 : Nat) (id : Int) (hit : Bool) (pre : List Unit) (X : Bs) : Prop :=
  ((pre = [] ∨ hit = false) ∧ X = []) ∨ (pre ≠ [] ∧ hit = true ∧ ∃ q c' zs, n0 ≤ q ∧ X = [(g, #[.slice (some ⟨q, 0, none⟩) 1 c'], 41), (q, ([.int .i64 2, .int .i64 id, .int .i64 3] ++ zs).toArray, 48)])
theorem XOk.nil {g n0 : Nat} {id : Int} {hit : Bool} {X : Bs} (h : XOk g n0 id hit [] X) : X = [] := by
  rcases h with ⟨_, h⟩ | ⟨h, _⟩
  · exact h
  · exact absurd rfl h
theorem XOk.pos {g n0 : Nat} {id : Int} {hit : Bool} {pre : List Unit} {X : Bs} (h : XOk g n0 id hit pre X) (hg : 0 < g) (h0 : 0 < n0) : ∀ x ∈ X, 1 ≤ x.1 := by
  rcases h with ⟨_, rfl⟩ | ⟨_, _, q, c', zs, hq, rfl⟩
  · intro x hx; cases hx
  · intro x hx
    rcases List.mem_cons.1 hx with rfl | hx
    · exact hg
    · obtain rfl := List.mem_singleton.1 hx
      show 1 ≤ q; omega
theorem add05 : tick_Add.f 0 5 = some 5 := by kernel_rfl
theorem until5 (id : Int) : job_Job_Until.f id 0 0 1 5 0 0 false 1 0 0 0 0 0 8 0 0 = some 5 := by
  unfold job_Job_Until.f
  rw [if_pos rfl, add05]; rfl
theorem has_15 : bits_Set_Has.f 15 3 = some true := by kernel_rfl
theorem has_0 : bits_Set_Has.f 0 3 = some false := by kernel_rfl
set_option maxRecDepth 100000 in
set_option maxHeartbeats 4000000 in
theorem running_c (hit : Bool) (ah : Int) (hah : bits_Set_Has.f ah 3 = some hit) (id : Int) (A : Option Addr) (c : Nat) (l : List S33) (J : Value) (g : Nat) (w : World) (h0g : 0 < g) (hg : hit = true → w.heap[g]? = some (.cells #[.slice none 0 0] 41 (0, 0))) (hT : Tab w) (hC : Kd.C k33 w A l.length l) (hc : l.length ≤ c) (hl4 : l.length = 4) (hd : inR l 2 l.length = 0) (hJ : J.cells = #[J]) :
    Calls Tryd.prog 9 #[.pointer (some ⟨g, 0, none⟩), .agg #[.int .i64 0, .int .i64 0, .slice A l.length c, J, .int .i64 0, .int .i64 0, .int .u64 0, .int .u64 0, .bool false, .int .i64 0], .agg #[.int .i64 id, .int .i64 0, .int .i64 0, .int .i64 1, .int .i64 5, .int .i64 0, .int .i64 0, .bool false, .int .i64 1, .int .i64 0, .int .i64 0, .int .i64 0, .int .i64 0, .int .u64 0, .int .u64 8, .int .i64 0, .int .i64 0], .int .u64 ah] w fun e w' => (∃ v, e = .returned v) ∧ ∃ X, XOk g w.heap.size id hit [()] X ∧ HG 0 w X w' := by
  have hu30 := Tryd.underlying30
  have hu43 := Tryd.underlying43
  have HC := Aside0.mk hC
  have HCC := Aside0.mk hc
  have HL4 := Aside0.mk hl4
  have HD := Aside0.mk hd
  have HJ := Aside0.mk hJ
  have HT := Aside0.mk hT
  have HAH := Aside0.mk hah
  have HGG := Aside0.mk hg
  have H := HB.start w
  clear hC hc hl4 hd hJ hT hah hg
  refine (callsIn_wide (n := 5)).1 ?_
  refine callsIn_of_wp_marks Tryd.func9 rfl trivial ?_ rfl
  simp only [Tryd.ntmps9, List.size_toArray, List.length_cons, List.length_nil, Nat.reduceAdd, Nat.reduceSub, Array.replicate_succ, Array.replicate_zero, List.push_toArray, List.append_toArray, List.nil_append, List.cons_append]
  refine wpIn_wide.2 ?_
  go_wp2_with (first
   | ((with_reducible refine gate_dst (N := 4) rfl ?_); refine hb_box1 rfl rfl H rfl rfl ?_; intro gl W1 hgl H1; clear H; have H := H1; clear H1)
   | ((with_reducible refine gate_dst (N := 5) rfl ?_); refine hb_box rfl rfl H rfl ?_; intro gv W1 hgv H1; clear H; have H := H1; clear H1)
   | ((with_reducible refine gate_dst (N := 6) rfl ?_); refine hb_box rfl rfl H rfl ?_; intro gj W1 hgj H1; clear H; have H := H1; clear H1)
   | ((with_reducible refine gate_dst (N := 7) rfl ?_); refine hb_box1 rfl rfl H rfl rfl ?_; intro ga W1 hga H1; clear H; have H := H1; clear H1))
  refine wp_calm ?_
  (refine lex_start (.t 0 (.t 1 (.t 2 (.t 4 (.t 5 (.e 3 (.t 6 (.e 7 .n)))))))) (by kernel_rfl) (by decide +kernel) (H.drew.stat) (fun _ _ d _ _ h => by cases d <;> exact h) (fun _ => ?_)); replace H := H.drew
  repeat' (first
   | (refine lexg_load rfl rfl ?_; first
      | (refine lex_load rfl rfl rfl rfl rfl (k := 1) rfl Tryd.underlying26 rfl rfl (by simp only [Act.put, List.setIfInBounds_toArray, List.set_cons_zero, List.set_cons_succ]; rfl) ?_)
      | (refine lex_load rfl rfl rfl rfl rfl (k := 1) rfl Tryd.underlying3 rfl rfl (by simp only [Act.put, List.setIfInBounds_toArray, List.set_cons_zero, List.set_cons_succ]; rfl) ?_))
   | (refine lex_call rfl rfl rfl rfl Tryd.func16 (by kernel_rfl) rfl (by simp only [List.map_toArray, List.map_cons, List.map_nil]; rfl) ?_; refine (bits_Set_Len.calls 8 1 _ bd_len8).mono ?_; rintro e w2 ⟨rfl, B2⟩; replace H := H.drawn B2; clear B2; refine ⟨_, rfl, H.stat, ?_⟩)
   | (refine lex_callV rfl rfl rfl rfl rfl Tryd.func19 (by kernel_rfl) rfl (by simp only [List.map_toArray, List.map_cons, List.map_nil]; rfl) ?_; refine (whole0_c _ _ _ _ _ _ ((blk_cell (H.get (k := 3) rfl) 0).trans rfl) ((blk_cell (H.get (k := 1) rfl) 0).trans rfl)).mono ?_; rintro e w2 ⟨⟨v, rfl⟩, B2⟩; replace H := H.call B2; clear B2; refine ⟨v, rfl, H.stat, ?_⟩)
   | (refine lexg_pure ?_; refine lex_pure rfl rfl rfl (by intro W1 h1; go_simp; with_reducible rfl) (by simp only [Act.put, List.setIfInBounds_toArray, List.set_cons_zero, List.set_cons_succ]; rfl) ?_))
  refine lex_done ?_
  simp only [Act.put, List.setIfInBounds_toArray, List.set_cons_zero, List.set_cons_succ]
  have C13 := Aside0.mk (fun W => (by have := all_c 0 0 A c l J 0 0 0 0 false 0 W (by have := HL4.out; omega) HJ.out; have e : ((2 ^ min l.length 64 - 1 : Nat) : Int) = 15 := (by rw [HL4.out]; rfl); rw [e] at this; exact this : Calls Tryd.prog 13 #[.agg #[.int .i64 0, .int .i64 0, .slice A l.length c, J, .int .i64 0, .int .i64 0, .int .u64 0, .int .u64 0, .bool false, .int .i64 0]] W fun e w' => e = .returned (.int .u64 15) ∧ Below W.heap.size W w'))
  have C15 := Aside0.mk (fun W (h : Below w.heap.size w W) => (by have := in_c 0 0 A c l J 0 0 0 0 false 0 2 W (Kd.C_below HC.out h) HCC.out (by have := HL4.out; omega) HJ.out; rw [HD.out] at this; exact this : Calls Tryd.prog 15 #[.agg #[.int .i64 0, .int .i64 0, .slice A l.length c, J, .int .i64 0, .int .i64 0, .int .u64 0, .int .u64 0, .bool false, .int .i64 0], .int .i64 2] W fun e w' => e = .returned (.int .u64 0) ∧ Below W.heap.size W w'))
  go_upto_region 3 with fail
  go_cut [9, 10] from 13 to 81 (fun v9 v10 wc => ∃ g9 g10, v9 = .pointer (some ⟨g9, 0, none⟩) ∧ v10 = .pointer (some ⟨g10, 0, none⟩) ∧ Aside0 (HG w.heap.size w [(g10, #[.int .u64 0], 26), (g9, #[.int .u64 15], 26), (ga, #[.int .u64 ah], 26), (gj, #[.int .i64 id, .int .i64 0, .int .i64 0, .int .i64 1, .int .i64 5, .int .i64 0, .int .i64 0, .bool false, .int .i64 1, .int .i64 0, .int .i64 0, .int .i64 0, .int .i64 0, .int .u64 0, .int .u64 8, .int .i64 0, .int .i64 0], 43), (gv, #[.int .i64 0, .int .i64 0, .slice A l.length c, J, .int .i64 0, .int .i64 0, .int .u64 0, .int .u64 0, .bool false, .int .i64 0], 30), (gl, #[.pointer (some ⟨g, 0, none⟩)], 55)] wc))
  case first =>
    refine wp_calm ?_
    (refine lex_start (.t 0 (.t 2 (.c 1 4 5 (.c 3 4 5 (.b 4 5 (.e 5 (.e 6 (.e 7 .n))) (.e 4 (.e 6 (.e 7 .n)))) (.b 3 5 (.e 5 (.e 6 (.e 7 .n))) (.e 3 (.e 6 (.e 7 .n)))) (.b 3 4 (.e 4 (.e 6 (.e 7 .n))) (.e 3 (.e 6 (.e 7 .n))))) (.b 1 5 (.b 3 5 (.e 5 (.e 6 (.e 7 .n))) (.e 3 (.e 6 (.e 7 .n)))) (.e 1 (.e 3 (.e 6 (.e 7 .n))))) (.b 1 4 (.b 3 4 (.e 4 (.e 6 (.e 7 .n))) (.e 3 (.e 6 (.e 7 .n)))) (.e 1 (.e 3 (.e 6 (.e 7 .n)))))))) (by kernel_rfl) (by decide +kernel) (H.drew.sub1 2 rfl) (fun _ _ d _ _ h => by cases d <;> exact h) (fun _ => ?_)); replace H := H.drew
    repeat' (first
   | (refine lexg_load rfl rfl ?_; first
      | (refine lex_row rfl rfl rfl rfl rfl (k := 0) rfl Tryd.underlying30 rfl (by kernel_rfl) (by simp only [Act.put, List.setIfInBounds_toArray, List.set_cons_zero, List.set_cons_succ]; rfl) ?_))
   | (refine lex_call rfl rfl rfl rfl Tryd.func13 (by kernel_rfl) rfl (by simp only [List.map_toArray, List.map_cons, List.map_nil]; rfl) ?_; refine (C13.out _).mono ?_; rintro e w2 ⟨rfl, B2⟩; replace H := H.call B2; clear B2; refine ⟨_, rfl, by first | exact H.sub1 2 rfl | exact H.sub1 3 rfl | exact H.sub1 4 rfl, ?_⟩)
   | (refine lex_call rfl rfl rfl rfl Tryd.func15 (by kernel_rfl) rfl (by simp only [List.map_toArray, List.map_cons, List.map_nil]; rfl) ?_; refine (C15.out _ H.below).mono ?_; rintro e w2 ⟨rfl, B2⟩; replace H := H.call B2; clear B2; refine ⟨_, rfl, by first | exact H.sub1 2 rfl | exact H.sub1 3 rfl | exact H.sub1 4 rfl, ?_⟩)
   | (refine lex_three ?_ ?_ ?_)
   | (refine lex_two ?_ ?_)
   | (refine lex_alloc1 rfl rfl rfl rfl H zero26 rfl (fun _ h => by first | exact h.sub1 2 rfl | exact h.sub1 3 rfl | exact h.sub1 4 rfl) ?_; intro gz W1 hgz H1; clear H; have H := H1; clear H1)
   | ((first
      | refine lex_storeI rfl rfl rfl rfl H rfl (k := 0) rfl rfl (by kernel_rfl) rfl (fun _ h => by first | exact h.sub1 2 rfl | exact h.sub1 3 rfl | exact h.sub1 4 rfl) ?_
      | refine lex_storeI rfl rfl rfl rfl H rfl (k := 1) rfl rfl (by kernel_rfl) rfl (fun _ h => by first | exact h.sub1 2 rfl | exact h.sub1 3 rfl | exact h.sub1 4 rfl) ?_); intro W1 H1; clear H; simp only [List.setIfInBounds_toArray, List.set_cons_zero, List.set_cons_succ] at H1; have H := H1; clear H1)
   | (refine lexg_pure ?_; refine lex_pure rfl rfl rfl (by intro W1 h1; go_simp; with_reducible rfl) (by simp only [Act.put, List.setIfInBounds_toArray, List.set_cons_zero, List.set_cons_succ]; rfl) ?_))
    all_goals
      refine lex_done ?_
      simp only [Act.put, List.setIfInBounds_toArray, List.set_cons_zero, List.set_cons_succ]
      go_wp2_with fail
      go_meet
      case rel => first
        | exact ⟨_, _, rfl, rfl, ⟨H⟩⟩
        | exact ⟨_, _, rfl, rfl, ⟨H.perm (.swap _ _ _)⟩⟩

  case rest =>
  obtain ⟨g9, g10, rfl, rfl, HX⟩ := hcut
  have H := HX.out
  clear HX
  go_wp2_with (first
   | ((with_reducible refine (all_g H).mono ?_); rintro e w2 ⟨gb, rfl, hgb, H1⟩; clear H; have H := H1; clear H1)
   | ((with_reducible refine gate_load rfl ?_); refine hb_load rfl rfl H rfl (k := 3) rfl Tryd.underlying26 rfl rfl ?_))

  have e1 := H.ge (k := 1) rfl
  have e2 := H.ge (k := 2) rfl
  have HGB := H.get (k := 0) rfl
  have hgbl : gb < w2.heap.size := blk_lt HGB
  have hsz : w.heap.size ≤ w2.heap.size := H.below.size
  have hp0 := HT.out.size
  have hT2 : Tab w2 := HT.out.go H.below
  have hgw : hit = true → w2.heap[g]? = some (.cells #[.slice none 0 0] 41 (0, 0)) := fun h => blk_below (HGG.out h) H.below
  have hglt : hit = true → g < w.heap.size := fun h => blk_lt (HGG.out h)
  have H6 : HG 0 w [(g10, #[.int .u64 0], 26), (g9, #[.int .u64 15], 26), (ga, #[.int .u64 ah], 26), (gj, #[.int .i64 id, .int .i64 0, .int .i64 0, .int .i64 1, .int .i64 5, .int .i64 0, .int .i64 0, .bool false, .int .i64 1, .int .i64 0, .int .i64 0, .int .i64 0, .int .i64 0, .int .u64 0, .int .u64 8, .int .i64 0, .int .i64 0], 43), (gv, #[.int .i64 0, .int .i64 0, .slice A l.length c, J, .int .i64 0, .int .i64 0, .int .u64 0, .int .u64 0, .bool false, .int .i64 0], 30), (gl, #[.pointer (some ⟨g, 0, none⟩)], 55)] w2 := (H.zero).drop hgb
  have H6' := Aside0.mk H6
  have HGL := Aside0.mk hglt
  have HL6 : Aside0 (∀ x ∈ ((g10, #[.int .u64 0], 26) :: (g9, #[.int .u64 15], 26) :: (ga, #[.int .u64 ah], 26) :: (gj, #[.int .i64 id, .int .i64 0, .int .i64 0, .int .i64 1, .int .i64 5, .int .i64 0, .int .i64 0, .bool false, .int .i64 1, .int .i64 0, .int .i64 0, .int .i64 0, .int .i64 0, .int .u64 0, .int .u64 8, .int .i64 0, .int .i64 0], 43) :: (gv, #[.int .i64 0, .int .i64 0, .slice A l.length c, J, .int .i64 0, .int .i64 0, .int .u64 0, .int .u64 0, .bool false, .int .i64 0], 30) :: (gl, #[.pointer (some ⟨g, 0, none⟩)], 55) :: []), w.heap.size ≤ x.1) := ⟨by intro x hx; simp only [List.mem_cons, List.not_mem_nil, or_false] at hx; rcases hx with rfl | rfl | rfl | rfl | rfl | rfl <;> assumption⟩
  have HSP : Aside0 ((∀ (X : Bs) x, x ∈ ((g10, #[.int .u64 0], 26) :: (g9, #[.int .u64 15], 26) :: (ga, #[.int .u64 ah], 26) :: (gj, #[.int .i64 id, .int .i64 0, .int .i64 0, .int .i64 1, .int .i64 5, .int .i64 0, .int .i64 0, .bool false, .int .i64 1, .int .i64 0, .int .i64 0, .int .i64 0, .int .i64 0, .int .u64 0, .int .u64 8, .int .i64 0, .int .i64 0], 43) :: (gv, #[.int .i64 0, .int .i64 0, .slice A l.length c, J, .int .i64 0, .int .i64 0, .int .u64 0, .int .u64 0, .bool false, .int .i64 0], 30) :: (gl, #[.pointer (some ⟨g, 0, none⟩)], 55) :: X) → x ∈ ((g10, #[.int .u64 0], 26) :: (g9, #[.int .u64 15], 26) :: (ga, #[.int .u64 ah], 26) :: (gj, #[.int .i64 id, .int .i64 0, .int .i64 0, .int .i64 1, .int .i64 5, .int .i64 0, .int .i64 0, .bool false, .int .i64 1, .int .i64 0, .int .i64 0, .int .i64 0, .int .i64 0, .int .u64 0, .int .u64 8, .int .i64 0, .int .i64 0], 43) :: (gv, #[.int .i64 0, .int .i64 0, .slice A l.length c, J, .int .i64 0, .int .i64 0, .int .u64 0, .int .u64 0, .bool false, .int .i64 0], 30) :: (gl, #[.pointer (some ⟨g, 0, none⟩)], 55) :: []) ∨ x ∈ X) ∧ (∀ (X : Bs) x, x ∈ ((g10, #[.int .u64 0], 26) :: (g9, #[.int .u64 15], 26) :: (ga, #[.int .u64 ah], 26) :: (gj, #[.int .i64 id, .int .i64 0, .int .i64 0, .int .i64 1, .int .i64 5, .int .i64 0, .int .i64 0, .bool false, .int .i64 1, .int .i64 0, .int .i64 0, .int .i64 0, .int .i64 0, .int .u64 0, .int .u64 8, .int .i64 0, .int .i64 0], 43) :: (gv, #[.int .i64 0, .int .i64 0, .slice A l.length c, J, .int .i64 0, .int .i64 0, .int .u64 0, .int .u64 0, .bool false, .int .i64 0], 30) :: (gl, #[.pointer (some ⟨g, 0, none⟩)], 55) :: []) → x ∈ ((g10, #[.int .u64 0], 26) :: (g9, #[.int .u64 15], 26) :: (ga, #[.int .u64 ah], 26) :: (gj, #[.int .i64 id, .int .i64 0, .int .i64 0, .int .i64 1, .int .i64 5, .int .i64 0, .int .i64 0, .bool false, .int .i64 1, .int .i64 0, .int .i64 0, .int .i64 0, .int .i64 0, .int .u64 0, .int .u64 8, .int .i64 0, .int .i64 0], 43) :: (gv, #[.int .i64 0, .int .i64 0, .slice A l.length c, J, .int .i64 0, .int .i64 0, .int .u64 0, .int .u64 0, .bool false, .int .i64 0], 30) :: (gl, #[.pointer (some ⟨g, 0, none⟩)], 55) :: X))) := ⟨fun X x hx => List.mem_append.1 (show x ∈ ((g10, #[.int .u64 0], 26) :: (g9, #[.int .u64 15], 26) :: (ga, #[.int .u64 ah], 26) :: (gj, #[.int .i64 id, .int .i64 0, .int .i64 0, .int .i64 1, .int .i64 5, .int .i64 0, .int .i64 0, .bool false, .int .i64 1, .int .i64 0, .int .i64 0, .int .i64 0, .int .i64 0, .int .u64 0, .int .u64 8, .int .i64 0, .int .i64 0], 43) :: (gv, #[.int .i64 0, .int .i64 0, .slice A l.length c, J, .int .i64 0, .int .i64 0, .int .u64 0, .int .u64 0, .bool false, .int .i64 0], 30) :: (gl, #[.pointer (some ⟨g, 0, none⟩)], 55) :: []) ++ X from hx), fun X x hx => (List.mem_append.2 (.inl hx) : x ∈ ((g10, #[.int .u64 0], 26) :: (g9, #[.int .u64 15], 26) :: (ga, #[.int .u64 ah], 26) :: (gj, #[.int .i64 id, .int .i64 0, .int .i64 0, .int .i64 1, .int .i64 5, .int .i64 0, .int .i64 0, .bool false, .int .i64 1, .int .i64 0, .int .i64 0, .int .i64 0, .int .i64 0, .int .u64 0, .int .u64 8, .int .i64 0, .int .i64 0], 43) :: (gv, #[.int .i64 0, .int .i64 0, .slice A l.length c, J, .int .i64 0, .int .i64 0, .int .u64 0, .int .u64 0, .bool false, .int .i64 0], 30) :: (gl, #[.pointer (some ⟨g, 0, none⟩)], 55) :: []) ++ X)⟩
  clear hglt
  clear H H6
  refine (wpIn_wide (n := 5)).1 ?_
  refine wpIn_rangeFunc_ownH rfl (by omega) (gf := 30) (lb := #[.pointer (some ⟨gb, 0, none⟩)]) rfl trivial (enters_of Tryd.func30 (by kernel_rfl) rfl)
    (one_stops (5 - 1) (by omega) gb 1 w2 hgbl (by omega) (by omega) ((blk_cell HGB 0).trans rfl) hT2) belowK_t (belowK_b (by omega)) (Below.refl _ _) (fun _ => rfl)
    (fun pre W => ∃ X, XOk g w.heap.size id hit pre X ∧ HG 0 w ((g10, #[.int .u64 0], 26) :: (g9, #[.int .u64 15], 26) :: (ga, #[.int .u64 ah], 26) :: (gj, #[.int .i64 id, .int .i64 0, .int .i64 0, .int .i64 1, .int .i64 5, .int .i64 0, .int .i64 0, .bool false, .int .i64 1, .int .i64 0, .int .i64 0, .int .i64 0, .int .i64 0, .int .u64 0, .int .u64 8, .int .i64 0, .int .i64 0], 43) :: (gv, #[.int .i64 0, .int .i64 0, .slice A l.length c, J, .int .i64 0, .int .i64 0, .int .u64 0, .int .u64 0, .bool false, .int .i64 0], 30) :: (gl, #[.pointer (some ⟨g, 0, none⟩)], 55) :: X) W) (fun _ _ _ => False)
    (fun pre W W' row hI hg hr => by
      obtain ⟨X, h1, h2⟩ := hI
      exact ⟨X, h1, h2.ownFrom hsz hg hr⟩)
    (fun _ _ _ _ _ h _ _ => h) ⟨[], .inl ⟨.inl rfl, rfl⟩, H6'.out⟩
    (fun _ a' W => ∃ gn, a' = { tmps := #[.pointer (some ⟨g, 0, none⟩), .agg #[.int .i64 0, .int .i64 0, .slice A l.length c, J, .int .i64 0, .int .i64 0, .int .u64 0, .int .u64 0, .bool false, .int .i64 0], .agg #[.int .i64 id, .int .i64 0, .int .i64 0, .int .i64 1, .int .i64 5, .int .i64 0, .int .i64 0, .bool false, .int .i64 1, .int .i64 0, .int .i64 0, .int .i64 0, .int .i64 0, .int .u64 0, .int .u64 8, .int .i64 0, .int .i64 0], .int .u64 ah, .pointer (some ⟨gl, 0, none⟩), .pointer (some ⟨gv, 0, none⟩), .pointer (some ⟨gj, 0, none⟩), .pointer (some ⟨ga, 0, none⟩), .func (.func 19) #[] #[.pointer (some ⟨gl, 0, none⟩), .pointer (some ⟨gj, 0, none⟩)], .pointer (some ⟨g9, 0, none⟩), .pointer (some ⟨g10, 0, none⟩), .pointer (some ⟨gn, 0, none⟩), undef, u13, u14, u15, u16, u17, u18, u19, u20, u21, u22, u23, u24, u25, .pointer (some ⟨gj, 14, none⟩), .int .u64 8, .func (.func 30) #[] #[.pointer (some ⟨gb, 0, none⟩)], .int .i64 3, u30, u31, u32, u33, u34, u35, u36, u37, u38, u39, u40, u41, u42, u43, u44, u45, u46, u47, u48, u49, u50, u51, u52, u53, u54, u55, u56, u57, u58, u59, u60, u61, u62, u63, u64, u65, u66, u67, u68, u69, u70, u71, u72, u73, u74, u75, u76, u77, u78, u79, u80, u81], defers := [] } ∧ W.heap[gn]? = some (.cells #[.int .i64 3] 3 (0, 0)) ∧ w.heap.size ≤ gn ∧ ∀ x ∈ ((g10, #[.int .u64 0], 26) :: (g9, #[.int .u64 15], 26) :: (ga, #[.int .u64 ah], 26) :: (gj, #[.int .i64 id, .int .i64 0, .int .i64 0, .int .i64 1, .int .i64 5, .int .i64 0, .int .i64 0, .bool false, .int .i64 1, .int .i64 0, .int .i64 0, .int .i64 0, .int .i64 0, .int .u64 0, .int .u64 8, .int .i64 0, .int .i64 0], 43) :: (gv, #[.int .i64 0, .int .i64 0, .slice A l.length c, J, .int .i64 0, .int .i64 0, .int .u64 0, .int .u64 0, .bool false, .int .i64 0], 30) :: (gl, #[.pointer (some ⟨g, 0, none⟩)], 55) :: []), x.1 ≠ gn)
    (fun _ a' _ W W' row hI hg hr => by
      obtain ⟨gn, h1, h2, h3⟩ := hI
      refine ⟨gn, h1, ?_, h3⟩
      rw [hg.block gn (blk_lt h2) fun e => ?_]
      · exact h2
      · obtain ⟨_, o, k1, k2⟩ := hr gn e.symm
        rw [h2] at k1
        obtain rfl := Option.some.inj k1
        cases k2) ?assign ?body ?done ?stop
  case assign =>
    rintro lp pre ⟨⟩ W K ⟨X, hX, HW⟩ hK
    have HW' := Aside0.mk HW
    have HX' := Aside0.mk hX
    have HK' := Aside0.mk hK
    have hW0 := HW.below.size
    have H := HW.rebase
    clear HW hX hK
    refine region_round lp (by rintro ⟨a, w, h⟩; exact h) (by simp) ?_
    simp only [List.zip_toArray, List.zip_cons_cons, List.zip_nil_left, List.zip_nil_right, List.foldl_toArray, List.foldl_toArray', List.foldl_cons, List.foldl_nil, List.setIfInBounds_toArray, List.set_cons_succ, List.set_cons_zero]
    go_wp2_with (first
     | ((with_reducible refine gate_alloc rfl ?_); refine hb_alloc1 rfl rfl H zero3 rfl ?_; intro gn W1 hgn H1; clear H; have H := H1; clear H1)
     | ((with_reducible refine gate_st rfl ?_); refine hb_storeI rfl rfl rfl H rfl (k := 0) rfl rfl (by kernel_rfl) rfl ?_; intro W1 H1; clear H; simp only [List.setIfInBounds_toArray, List.set_cons_zero, List.set_cons_succ] at H1; have H := H1; clear H1))
    have hgw : w.heap.size ≤ gn := Nat.le_trans hW0 hgn
    refine HK'.out _ _ ?_ ?_ ⟨X, HX'.out, ?_⟩ ⟨gn, rfl, H.get (k := 0) rfl, hgw, fun x hx => Ne.symm ((List.pairwise_cons.1 H.apart).1 x (HSP.out.2 X x hx))⟩
    · refine H.keepsVia HW'.out fun x hx hlt => ?_
      rcases List.mem_cons.1 hx with rfl | hx
      · exact absurd hlt (Nat.not_lt.2 hgn)
      · exact ⟨x, hx, rfl⟩
    · refine H.belowN (fun x hx => ?_) (by omega)
      rcases List.mem_cons.1 hx with rfl | hx
      · show 1 ≤ gn; omega
      · rcases HSP.out.1 X x hx with h | h
        · have := HL6.out x h; omega
        · exact HX'.out.pos h0g hp0 x h
    · exact (HW'.out.comp H (fun x hx => ⟨x, List.mem_cons_of_mem _ hx, rfl⟩)).drop hgw
  case body =>
    rintro lp pre ⟨⟩ a' W hle hrec ⟨X, hX, HW⟩ ⟨gn, rfl, hgn, hgnw, hgne⟩ hlen
    obtain rfl : pre = [] := by
      cases pre with
      | nil => rfl
      | cons a b => simp at hlen
    obtain rfl := hX.nil
    have HW' := Aside0.mk HW
    have H := (HW.cons hgn hgne).rebase
    have HGN := Aside0.mk hgne
    have hW0 := HW.below.size
    have HG1 := Aside0.mk (fun h : hit = true => (HW.kept g (HGL.out h) (fun x hx he => by have := HL6.out x hx; have := HGL.out h; omega)).trans (HGG.out h))
    have HGC := Aside0.mk hgn
    have HGK : Aside0 (hit = true → ∀ x ∈ (gn, #[.int .i64 3], 3) :: ((g10, #[.int .u64 0], 26) :: (g9, #[.int .u64 15], 26) :: (ga, #[.int .u64 ah], 26) :: (gj, #[.int .i64 id, .int .i64 0, .int .i64 0, .int .i64 1, .int .i64 5, .int .i64 0, .int .i64 0, .bool false, .int .i64 1, .int .i64 0, .int .i64 0, .int .i64 0, .int .i64 0, .int .u64 0, .int .u64 8, .int .i64 0, .int .i64 0], 43) :: (gv, #[.int .i64 0, .int .i64 0, .slice A l.length c, J, .int .i64 0, .int .i64 0, .int .u64 0, .int .u64 0, .bool false, .int .i64 0], 30) :: (gl, #[.pointer (some ⟨g, 0, none⟩)], 55) :: []), x.1 ≠ g) := ⟨fun h x hx => by
      have := HGL.out h
      rcases List.mem_cons.1 hx with rfl | hx
      · show gn ≠ g; omega
      · have := HL6.out x hx; omega⟩
    clear HW hX hgn hgne hlen
    refine wpIn_block ?_
    refine wpIn_seq ?_
    refine region_round lp (by rintro ⟨a, w, h⟩; exact h) (by simp) ?_
    go_wp2_with (first
   | ((with_reducible refine gate_load rfl ?_); fail))
    refine wpIn_seq ?_
    refine region_round lp (by rintro ⟨a, w, h⟩; exact h) (by simp) ?_
    go_wp2_with (first
   | ((with_reducible refine gate_load rfl ?_); first
      | refine hb_load rfl rfl H rfl (k := 2) rfl Tryd.underlying26 rfl rfl ?_
      | refine hb_load rfl rfl H rfl (k := 0) rfl Tryd.underlying3 rfl rfl ?_)
   | ((with_reducible refine (bits_Set_Has.calls 15 3 true _ has_15).mono ?_); rintro e w2 ⟨rfl, B2⟩; replace H := H.drawn B2; clear B2)
   | ((with_reducible refine (node0_c _ _ _ _ _ _ _ _ ((blk_cell (H.get (k := 6) rfl) 0).trans rfl) ((blk_cell (H.get (k := 4) rfl) 0).trans rfl) ((blk_cell (H.get (k := 0) rfl) 0).trans rfl)).mono ?_); rintro e w2 ⟨⟨v, rfl⟩, B2⟩; replace H := H.call B2; clear B2))
    refine wpIn_seq ?_
    refine region_round lp (by rintro ⟨a, w, h⟩; exact h) (by simp) ?_
    go_wp2_with (first
   | ((with_reducible refine gate_load rfl ?_); first
      | refine hb_load rfl rfl H rfl (k := 4) rfl Tryd.underlying26 rfl rfl ?_
      | refine hb_load rfl rfl H rfl (k := 0) rfl Tryd.underlying3 rfl rfl ?_)
   | ((with_reducible refine (bits_Set_Has.calls 0 3 false _ has_0).mono ?_); rintro e w2 ⟨rfl, B2⟩; replace H := H.drawn B2; clear B2)
   | ((with_reducible refine (node0_c _ _ _ _ _ _ _ _ ((blk_cell (H.get (k := 6) rfl) 0).trans rfl) ((blk_cell (H.get (k := 4) rfl) 0).trans rfl) ((blk_cell (H.get (k := 0) rfl) 0).trans rfl)).mono ?_); rintro e w2 ⟨⟨v, rfl⟩, B2⟩; replace H := H.call B2; clear B2))
    refine wpIn_seq ?_
    refine region_round lp (by rintro ⟨a, w, h⟩; exact h) (by simp) ?_
    go_wp2_with (first
   | ((with_reducible refine gate_load rfl ?_); first
      | refine hb_load rfl rfl H rfl (k := 1) rfl Tryd.underlying26 rfl rfl ?_
      | refine hb_load rfl rfl H rfl (k := 0) rfl Tryd.underlying3 rfl rfl ?_)
   | ((with_reducible refine (bits_Set_Has.calls 0 3 false _ has_0).mono ?_); rintro e w2 ⟨rfl, B2⟩; replace H := H.drawn B2; clear B2)
   | ((with_reducible refine (node0_c _ _ _ _ _ _ _ _ ((blk_cell (H.get (k := 6) rfl) 0).trans rfl) ((blk_cell (H.get (k := 4) rfl) 0).trans rfl) ((blk_cell (H.get (k := 0) rfl) 0).trans rfl)).mono ?_); rintro e w2 ⟨⟨v, rfl⟩, B2⟩; replace H := H.call B2; clear B2))
    have hgW : W.heap.size ≥ w.heap.size := hW0
    cases hit
    · have hx := HAH.out
      have CH := Aside0.mk (fun W => bits_Set_Has.calls ah 3 false W hx)
      clear hx
      refine region_round lp (by rintro ⟨a, w, h⟩; exact h) (by simp) ?_
      go_wp2_with (first
     | ((with_reducible refine gate_load rfl ?_); first
        | refine hb_load rfl rfl H rfl (k := 3) rfl Tryd.underlying26 rfl rfl ?_
        | refine hb_load rfl rfl H rfl (k := 0) rfl Tryd.underlying3 rfl rfl ?_)
     | ((with_reducible refine (CH.out _).mono ?_); rintro e w2 ⟨rfl, B2⟩; replace H := H.drawn B2; clear B2)
     | ((with_reducible refine (node0_c _ _ _ _ _ _ _ _ ((blk_cell (H.get (k := 6) rfl) 0).trans rfl) ((blk_cell (H.get (k := 4) rfl) 0).trans rfl) ((blk_cell (H.get (k := 0) rfl) 0).trans rfl)).mono ?_); rintro e w2 ⟨⟨v, rfl⟩, B2⟩; replace H := H.call B2; clear B2))
      refine ⟨?_, ?_, [], .inl ⟨.inr rfl, rfl⟩, (HW'.out.comp H (fun x hx => ⟨x, List.mem_cons_of_mem _ hx, rfl⟩)).drop hgnw⟩
      · refine H.keepsFrom fun x hx hlt => ?_
        rcases List.mem_cons.1 hx with rfl | hx
        · exact ⟨_, HGC.out, rfl⟩
        · exact ⟨_, (HW'.out.all x hx).2, rfl⟩
      · refine H.belowN (fun x hx => ?_) (by omega)
        rcases List.mem_cons.1 hx with rfl | hx
        · show 1 ≤ gn; omega
        · have := HL6.out x hx; omega
    · have hx := HAH.out
      have CH := Aside0.mk (fun W => bits_Set_Has.calls ah 3 true W hx)
      have HGW : Aside0 (g < W.heap.size) := ⟨Nat.lt_of_lt_of_le (HGL.out rfl) hW0⟩
      have HGK2 := Aside0.mk (HGK.out rfl)
      have HG1b := Aside0.mk (HG1.out rfl)
      clear HGK HG1
      clear hx
      refine region_round lp (by rintro ⟨a, w, h⟩; exact h) (by simp) ?_
      go_wp2_with (first
     | ((with_reducible refine gate_load rfl ?_); first
        | refine hb_load rfl rfl H rfl (k := 3) rfl Tryd.underlying26 rfl rfl ?_
        | refine hb_load rfl rfl H rfl (k := 0) rfl Tryd.underlying3 rfl rfl ?_)
     | ((with_reducible refine (CH.out _).mono ?_); rintro e w2 ⟨rfl, B2⟩; replace H := H.drawn B2; clear B2)
     | ((with_reducible refine (node1_c _ _ _ _ g _ _ _ ((blk_cell (H.get (k := 6) rfl) 0).trans rfl) ((blk_cell (H.get (k := 4) rfl) 0).trans rfl) ((blk_cell (H.get (k := 0) rfl) 0).trans rfl) ((H.kept g HGW.out HGK2.out).trans HG1b.out)).mono ?_); rintro e w2 ⟨⟨v, rfl⟩, q, c1, zs, hq, hb, H1⟩; have HQ := Aside0.mk (And.intro hq (And.intro hb H1)); clear hq hb H1))
      obtain ⟨hq, hb, H1⟩ := HQ.out
      have hqW : W.heap.size ≤ q := Nat.le_trans H.below.size hq
      have H2 := H.wrote HGK2.out H1
      have H3 := H2.cons hb (fun x hx => by
        rcases List.mem_cons.1 hx with rfl | hx
        · have := HGW.out; show g ≠ q; omega
        · have := H.lt hx; omega)
      have H4 := (HW'.out.comp H3 (fun x hx => ⟨x, List.mem_cons_of_mem _ (List.mem_cons_of_mem _ (List.mem_cons_of_mem _ hx)), rfl⟩)).perm ((List.Perm.swap _ _ _).trans (List.perm_append_comm (l₁ := [_, _]) (l₂ := _ :: _)))
      refine ⟨?_, ?_, _, .inr ⟨by simp, rfl, q, c1, zs, Nat.le_trans hW0 hqW, rfl⟩, H4.drop hgnw⟩
      · refine H3.keepsFrom fun x hx hlt => ?_
        rcases List.mem_cons.1 hx with rfl | hx
        · exact absurd hlt (Nat.not_lt.2 hqW)
        · rcases List.mem_cons.1 hx with rfl | hx
          · exact ⟨_, HG1b.out, rfl⟩
          · rcases List.mem_cons.1 hx with rfl | hx
            · exact ⟨_, HGC.out, rfl⟩
            · exact ⟨_, (HW'.out.all x hx).2, rfl⟩
      · refine H3.belowN (fun x hx => ?_) (by omega)
        rcases List.mem_cons.1 hx with rfl | hx
        · show 1 ≤ q; omega
        · rcases List.mem_cons.1 hx with rfl | hx
          · exact h0g
          · rcases List.mem_cons.1 hx with rfl | hx
            · show 1 ≤ gn; omega
            · have := HL6.out x hx; omega

  case done =>
    rintro D ys W hD rfl ⟨X, hX, HW⟩ hK
    have HX' := Aside0.mk hX
    have HW' := Aside0.mk HW
    have HK' := Aside0.mk hK
    have HDD := Aside0.mk hD
    have H := HW.rebase
    clear HW hX hK hD
    go_wp2
    refine wp_calm ?_
    (refine lex_start (.t 0 (.t 1 (.t 3 (.t 4 (.e 2 (.t 5 (.e 6 .n))))))) (by kernel_rfl) (by decide +kernel) (H.drew.stat) (fun _ _ d _ _ h => by cases d <;> exact h) (fun _ => ?_)); replace H := H.drew
    repeat' (first
   | (refine lexg_load rfl rfl ?_; first
      | (refine lex_load rfl rfl rfl rfl rfl (k := 4) rfl Tryd.underlying22 rfl rfl (by simp only [Act.put, List.setIfInBounds_toArray, List.set_cons_zero, List.set_cons_succ]; rfl) ?_)
      | (refine lex_row rfl rfl rfl rfl rfl (k := 3) rfl Tryd.underlying43 rfl (by kernel_rfl) (by simp only [Act.put, List.setIfInBounds_toArray, List.set_cons_zero, List.set_cons_succ]; rfl) ?_))
   | (refine lex_call rfl rfl rfl rfl Tryd.func23 (by kernel_rfl) rfl (by simp only [List.map_toArray, List.map_cons, List.map_nil]; rfl) ?_; refine (job_Job_Until.calls id 0 0 1 5 0 0 false 1 0 0 0 0 0 8 0 0 5 _ (until5 id)).mono ?_; rintro e w2 ⟨rfl, B2⟩; replace H := H.call B2; clear B2; refine ⟨_, rfl, H.stat, ?_⟩)
   | (refine lex_callV rfl rfl rfl rfl rfl Tryd.func19 (by kernel_rfl) rfl (by simp only [List.map_toArray, List.map_cons, List.map_nil]; rfl) ?_; refine (whole0_c _ _ _ _ _ _ ((blk_cell (H.get (k := 5) rfl) 0).trans rfl) ((blk_cell (H.get (k := 3) rfl) 0).trans rfl)).mono ?_; rintro e w2 ⟨⟨v, rfl⟩, B2⟩; replace H := H.call B2; clear B2; refine ⟨v, rfl, H.stat, ?_⟩)
   | (refine lexg_pure ?_; refine lex_pure rfl rfl rfl (by intro W1 h1; go_simp; with_reducible rfl) (by simp only [Act.put, List.setIfInBounds_toArray, List.set_cons_zero, List.set_cons_succ]; rfl) ?_))
    refine lex_done ?_
    simp only [Act.put, List.setIfInBounds_toArray, List.set_cons_zero, List.set_cons_succ]
    go_wp2_with (first
     | ((with_reducible refine (whole0_c _ _ _ _ _ _ ((blk_cell (H.get (k := 5) rfl) 0).trans rfl) ((blk_cell (H.get (k := 3) rfl) 0).trans rfl)).mono ?_); rintro e w2 ⟨⟨v, rfl⟩, B2⟩; replace H := H.call B2; clear B2)
     | ((with_reducible refine gate_load rfl ?_); first
      | refine hb_load rfl rfl H rfl (k := 3) rfl Tryd.underlying3 rfl rfl ?_
      | refine hb_load rfl rfl H rfl (k := 4) rfl Tryd.underlying3 rfl rfl ?_
      | refine hb_load rfl rfl H rfl (k := 3) rfl Tryd.underlying22 rfl rfl ?_
      | refine hb_load rfl rfl H rfl (k := 4) rfl Tryd.underlying22 rfl rfl ?_))
    have hDK := HK'.out
    have hcl : ∀ x ∈ ((g10, #[.int .u64 0], 26) :: (g9, #[.int .u64 15], 26) :: (ga, #[.int .u64 ah], 26) :: (gj, #[.int .i64 id, .int .i64 0, .int .i64 0, .int .i64 1, .int .i64 5, .int .i64 0, .int .i64 0, .bool false, .int .i64 1, .int .i64 0, .int .i64 0, .int .i64 0, .int .i64 0, .int .u64 0, .int .u64 8, .int .i64 0, .int .i64 0], 43) :: (gv, #[.int .i64 0, .int .i64 0, .slice A l.length c, J, .int .i64 0, .int .i64 0, .int .u64 0, .int .u64 0, .bool false, .int .i64 0], 30) :: (gl, #[.pointer (some ⟨g, 0, none⟩)], 55) :: X), x.1 ≠ D := fun x hx he => by
      have h1 := (HW'.out.all x hx).2
      rw [he, hDK] at h1; cases h1
    have hKD := (H.kept D (Array.getElem?_eq_some_iff.1 hDK).1 hcl).trans hDK
    have HF := (HW'.out.comp H (fun x hx => ⟨x, hx, rfl⟩)).ownFrom hsz (grownBy_putObj' _ D (.deferred none)) (fun r e => by cases e; exact ⟨HDD.out, _, hKD, rfl⟩)
    refine ⟨by simp, .inl ⟨_, _, rfl, run_takeDeferred hKD, ?_⟩⟩
    exact ⟨_, results_none rfl _ _ _, ⟨_, rfl⟩, X, HX'.out, (((((HF.drop e1).drop e2).drop hga).drop hgj).drop hgv).drop hgl⟩

  case stop =>
    rintro D c pre W hD hpre h hK
    exact h.elim

end Go.Proofs.YtkbjlaknhedekaaDoor.Sm
