/- A command's Right and Clean: contracts. Conditions: none beyond the arguments' form. -/
import Derived.Test.YtkkjjogbfjahgaaDoorPScx0
import Derived.Laws.Tables
import Derived.Laws.Rows
import Derived.Test.YtkkjjogbfjahgaaDoorHB
set_option linter.unusedVariables false
set_option linter.unusedSimpArgs false
namespace Go.Proofs.YtkkjjogbfjahgaaDoor.Sm
open Go Go.Proofs Go.RowKit Go.Proofs.YtkkjjogbfjahgaaDoorW.PrintWords Go.Proofs.YtkkjjogbfjahgaaDoorW.PrintLast Go.Proofs.YtkkjjogbfjahgaaDoorW.PrintMore Go.Proofs.YtkkjjogbfjahgaaDoor.PSc
def inB (v a b : Int) : Bool := decide (a ≤ v) && decide (v ≤ b)
def cmdA (c : S39) : Array Value := #[.int .i64 c.f0, .int .i64 c.f1, .int .i64 c.f2, .int .i64 c.f3, .int .i64 c.f4, .int .i64 c.f5, .int .i64 c.f6, .int .i64 c.f7, .int .i64 c.f8, .int .i64 c.f9, .int .i64 c.f10, .bool c.f11]
section
variable {P : Program} {ops : Array Oper} {Q : Exit → Act → World → Prop} {rest : List Oper} {o : Oper} {a : Act} {W : World}
/-- a parameter's struct is boxed -/
theorem boxed (hgd : o.guard = none) {N : Tmp} (hd : o.dst = some N) {t : TypeId} {x : Operand} (ho : o.op = .box t x) {cs : Array Value} (hx : a.eval x = .agg cs)
    (h : ∀ g w1, w1.heap[g]? = some (.cells cs t (0, 0)) → Below W.heap.size W w1 → W.heap.size ≤ g → wpList P ops Q rest (a.put o.dst (.pointer (some ⟨g, 0, none⟩))) w1) : wpList P ops Q (o :: rest) a W := by
  refine box_event hgd hd (cs := cs) (t := t) ?_ (fun g e w1 b B => h g w1 b B (Nat.le_of_eq e.symm))
  unfold execOp
  rw [ho]; simp only [hx]
  rfl
end
theorem within_c (v x y : Int) (w : World) : Calls Tryd.prog 41 #[.int .i64 v, .int .i64 x, .int .i64 y] w fun e w' => e = .returned (.bool (inB v x y)) ∧ w = w' := by
  unfold inB
  go_enter Tryd.func41, Tryd.ntmps41
  go_wp2
  all_goals (go_ret; exact ⟨by simp [*] <;> omega, rfl⟩)
end Go.Proofs.YtkkjjogbfjahgaaDoor.Sm
set_option linter.unusedVariables false
set_option linter.unusedSimpArgs false
namespace Go.Proofs.YtkkjjogbfjahgaaDoor.Sm
open Go Go.Proofs Go.RowKit Go.Proofs.YtkkjjogbfjahgaaDoorW.PrintWords Go.Proofs.YtkkjjogbfjahgaaDoorW.PrintLast Go.Proofs.YtkkjjogbfjahgaaDoorW.PrintMore Go.Proofs.YtkkjjogbfjahgaaDoor.PSc
theorem cells12 {w : World} {g t : Nat} {x0 x1 x2 x3 x4 x5 x6 x7 x8 x9 x10 x11 : Value} (h : w.heap[g]? = some (.cells #[x0, x1, x2, x3, x4, x5, x6, x7, x8, x9, x10, x11] t (0, 0))) :
  w.cell? ⟨g, 0, none⟩ = some x0 ∧ w.cell? ⟨g, 1, none⟩ = some x1 ∧ w.cell? ⟨g, 2, none⟩ = some x2 ∧ w.cell? ⟨g, 3, none⟩ = some x3 ∧ w.cell? ⟨g, 4, none⟩ = some x4 ∧ w.cell? ⟨g, 5, none⟩ = some x5 ∧ w.cell? ⟨g, 6, none⟩ = some x6 ∧ w.cell? ⟨g, 7, none⟩ = some x7 ∧ w.cell? ⟨g, 8, none⟩ = some x8 ∧ w.cell? ⟨g, 9, none⟩ = some x9 ∧ w.cell? ⟨g, 10, none⟩ = some x10 ∧ w.cell? ⟨g, 11, none⟩ = some x11 :=
  ⟨blk_cell h 0, blk_cell h 1, blk_cell h 2, blk_cell h 3, blk_cell h 4, blk_cell h 5, blk_cell h 6, blk_cell h 7, blk_cell h 8, blk_cell h 9, blk_cell h 10, blk_cell h 11⟩
variable (c : S39) (w : World)
theorem part_c : Calls Tryd.prog 42 #[.agg (cmdA c)] w fun e w' => e = .returned (.bool (inB c.f3 0 3)) ∧ Below w.heap.size w w' := by
  have hu39 := Tryd.underlying39
  unfold cmdA
  go_enter Tryd.func42, Tryd.ntmps42
  go_wp2_with (first
   | ((with_reducible refine gate_dst (N := 1) rfl ?_); refine boxed rfl rfl rfl (by rfl) ?_; intro g w1 b1 B1 n1; obtain ⟨q0, q1, q2, q3, q4, q5, q6, q7, q8, q9, q10, q11⟩ := cells12 b1)
   | (go_at_call 41; refine (within_c _ _ _ _).mono ?_; rintro e w' ⟨rfl, rfl⟩))
  go_ret
  exact ⟨rfl, B1⟩
theorem width_c : Calls Tryd.prog 43 #[.agg (cmdA c)] w fun e w' => e = .returned (.bool (inB c.f4 1 64)) ∧ Below w.heap.size w w' := by
  have hu39 := Tryd.underlying39
  unfold cmdA
  go_enter Tryd.func43, Tryd.ntmps43
  go_wp2_with (first
   | ((with_reducible refine gate_dst (N := 1) rfl ?_); refine boxed rfl rfl rfl (by rfl) ?_; intro g w1 b1 B1 n1; obtain ⟨q0, q1, q2, q3, q4, q5, q6, q7, q8, q9, q10, q11⟩ := cells12 b1)
   | (go_at_call 41; refine (within_c _ _ _ _).mono ?_; rintro e w' ⟨rfl, rfl⟩))
  go_ret
  exact ⟨rfl, B1⟩
theorem id_c : Calls Tryd.prog 45 #[.agg (cmdA c)] w fun e w' => e = .returned (.bool (inB c.f1 1 1073741824)) ∧ Below w.heap.size w w' := by
  have hu39 := Tryd.underlying39
  unfold cmdA
  go_enter Tryd.func45, Tryd.ntmps45
  go_wp2_with (first
   | ((with_reducible refine gate_dst (N := 1) rfl ?_); refine boxed rfl rfl rfl (by rfl) ?_; intro g w1 b1 B1 n1; obtain ⟨q0, q1, q2, q3, q4, q5, q6, q7, q8, q9, q10, q11⟩ := cells12 b1)
   | (go_at_call 41; refine (within_c _ _ _ _).mono ?_; rintro e w' ⟨rfl, rfl⟩))
  go_ret
  exact ⟨rfl, B1⟩
set_option maxRecDepth 100000 in
theorem limit_c : Calls Tryd.prog 44 #[.agg (cmdA c)] w fun e w' => e = .returned (.bool (inB c.f9 1 1048576)) ∧ Below w.heap.size w w' := by
  have hu39 := Tryd.underlying39
  unfold cmdA inB
  go_enter Tryd.func44, Tryd.ntmps44
  go_wp2_with (first
   | ((with_reducible refine gate_dst (N := 1) rfl ?_); refine boxed rfl rfl rfl (by rfl) ?_; intro g w1 b1 B1 n1; obtain ⟨q0, q1, q2, q3, q4, q5, q6, q7, q8, q9, q10, q11⟩ := cells12 b1))
  all_goals (go_ret; exact ⟨by simp [*] <;> omega, B1⟩)
set_option maxRecDepth 100000 in
theorem time_c : Calls Tryd.prog 46 #[.agg (cmdA c)] w fun e w' => e = .returned (.bool (inB c.f9 0 1099511627775)) ∧ Below w.heap.size w w' := by
  have hu39 := Tryd.underlying39
  unfold cmdA inB
  go_enter Tryd.func46, Tryd.ntmps46
  go_wp2_with (first
   | ((with_reducible refine gate_dst (N := 1) rfl ?_); refine boxed rfl rfl rfl (by rfl) ?_; intro g w1 b1 B1 n1; obtain ⟨q0, q1, q2, q3, q4, q5, q6, q7, q8, q9, q10, q11⟩ := cells12 b1))
  all_goals (go_ret; exact ⟨by simp [*] <;> omega, B1⟩)
def rightC (c : S39) : Bool :=
  if c.f0 = 1 then inB c.f2 1 16 && (inB c.f3 0 3 && (inB c.f4 1 64 && (inB c.f9 1 1048576 && (inB c.f5 (-100) 100 && inB c.f6 0 1073741824))))
  else if c.f0 = 2 ∨ c.f0 = 3 ∨ c.f0 = 4 ∨ c.f0 = 12 then inB c.f1 1 1073741824
  else if c.f0 = 5 then inB c.f1 1 1073741824 && inB c.f9 1 1048576
  else if c.f0 = 6 then inB c.f3 0 3 && (inB c.f4 1 64 && (inB c.f9 0 1099511627775 && (decide (1 ≤ c.f10) && decide (c.f10 < 1099511627776))))
  else if c.f0 = 7 then inB c.f3 0 3 && inB c.f1 1 1073741824
  else if c.f0 = 8 then inB c.f3 0 3 && inB c.f4 1 64
  else if c.f0 = 9 then inB c.f3 0 3
  else if c.f0 = 10 then inB c.f9 0 1099511627775
  else if c.f0 = 11 then inB c.f3 0 3 && (inB c.f7 0 63 && inB c.f8 0 4)
  else false
set_option maxRecDepth 100000 in
set_option maxHeartbeats 4000000 in
theorem right_c : Calls Tryd.prog 24 #[.agg (cmdA c)] w fun e w' => e = .returned (.bool (rightC c)) ∧ Below w.heap.size w w' := by
  have hu39 := Tryd.underlying39
  obtain ⟨k, a1, a2, a3, a4, a5, a6, a7, a8, a9, a10, a11⟩ := c
  have HP := Aside0.mk (part_c ⟨k, a1, a2, a3, a4, a5, a6, a7, a8, a9, a10, a11⟩)
  have HW := Aside0.mk (width_c ⟨k, a1, a2, a3, a4, a5, a6, a7, a8, a9, a10, a11⟩)
  have HI := Aside0.mk (id_c ⟨k, a1, a2, a3, a4, a5, a6, a7, a8, a9, a10, a11⟩)
  have HL := Aside0.mk (limit_c ⟨k, a1, a2, a3, a4, a5, a6, a7, a8, a9, a10, a11⟩)
  have HT := Aside0.mk (time_c ⟨k, a1, a2, a3, a4, a5, a6, a7, a8, a9, a10, a11⟩)
  have hk : k = 1 ∨ k = 2 ∨ k = 3 ∨ k = 4 ∨ k = 5 ∨ k = 6 ∨ k = 7 ∨ k = 8 ∨ k = 9 ∨ k = 10 ∨ k = 11 ∨ k = 12 ∨ (((k == 1) = false ∧ (k == 2) = false ∧ (k == 3) = false ∧ (k == 4) = false ∧ (k == 5) = false ∧ (k == 6) = false) ∧ (k == 7) = false ∧ (k == 8) = false ∧ (k == 9) = false ∧ (k == 10) = false ∧ (k == 11) = false ∧ (k == 12) = false) := by
    simp only [beq_eq_false_iff_ne]; omega
  rcases hk with rfl | rfl | rfl | rfl | rfl | rfl | rfl | rfl | rfl | rfl | rfl | rfl | ⟨⟨z1, z2, z3, z4, z5, z6⟩, z7, z8, z9, z10, z11, z12⟩
  all_goals
    show Calls _ _ #[.agg #[_, _, _, _, _, _, _, _, _, _, _, _]] w _
    go_enter Tryd.func24, Tryd.ntmps24
    go_wp2_with (first
     | ((with_reducible refine gate_dst (N := 1) rfl ?_); refine boxed rfl rfl rfl (by rfl) ?_; intro g w1 b1 B1 n1; have B := Aside0.mk B1; have b := Aside0.mk b1; clear B1 b1; obtain ⟨q0, q1, q2, q3, q4, q5, q6, q7, q8, q9, q10, q11⟩ := cells12 b.out)
     | (go_at_call 41; refine (within_c _ _ _ _).mono ?_; rintro e w' ⟨rfl, rfl⟩)
     | ((first
        | (go_at_call 42; refine (HP.out _).mono ?_)
        | (go_at_call 43; refine (HW.out _).mono ?_)
        | (go_at_call 44; refine (HL.out _).mono ?_)
        | (go_at_call 45; refine (HI.out _).mono ?_)
        | (go_at_call 46; refine (HT.out _).mono ?_)); rintro e w2 ⟨rfl, B2⟩; have B3 := Aside0.mk (below_step B.out B2); have b3 := Aside0.mk (blk_below b.out B2); clear B2 B b q0 q1 q2 q3 q4 q5 q6 q7 q8 q9 q10 q11; have B := B3; have b := b3; clear B3 b3; obtain ⟨q0, q1, q2, q3, q4, q5, q6, q7, q8, q9, q10, q11⟩ := cells12 b.out))
  all_goals (go_ret; (try simp only [beq_eq_false_iff_ne] at z1 z2 z3 z4 z5 z6 z7 z8 z9 z10 z11 z12); exact ⟨by simp [rightC, *] <;> omega, B.out⟩)
end Go.Proofs.YtkkjjogbfjahgaaDoor.Sm
set_option linter.unusedVariables false
set_option linter.unusedSimpArgs false
namespace Go.Proofs.YtkkjjogbfjahgaaDoor.Sm
open Go Go.Proofs Go.RowKit Go.Proofs.YtkkjjogbfjahgaaDoorW.PrintWords Go.Proofs.YtkkjjogbfjahgaaDoorW.PrintLast Go.Proofs.YtkkjjogbfjahgaaDoorW.PrintMore Go.Proofs.YtkkjjogbfjahgaaDoor.PSc
variable (c : S39) (w : World)
theorem zero39 (w : World) : (zeroValue 39).run Tryd.prog w = .ok (.agg #[.int .i64 0, .int .i64 0, .int .i64 0, .int .i64 0, .int .i64 0, .int .i64 0, .int .i64 0, .int .i64 0, .int .i64 0, .int .i64 0, .int .i64 0, .bool false]) w := by kernel_rfl
def cleanC (c : S39) : S39 :=
  if c.f0 = 1 then ⟨1, 0, c.f2, c.f3, c.f4, c.f5, c.f6, 0, 0, c.f9, 0, c.f11⟩
  else if c.f0 = 2 ∨ c.f0 = 3 ∨ c.f0 = 4 ∨ c.f0 = 12 then ⟨c.f0, c.f1, 0, 0, 0, 0, 0, 0, 0, 0, 0, false⟩
  else if c.f0 = 5 then ⟨5, c.f1, 0, 0, 0, 0, 0, 0, 0, c.f9, 0, false⟩
  else if c.f0 = 6 then ⟨6, 0, 0, c.f3, c.f4, 0, 0, 0, 0, c.f9, c.f10, false⟩
  else if c.f0 = 7 then ⟨7, c.f1, 0, c.f3, 0, 0, 0, 0, 0, 0, 0, false⟩
  else if c.f0 = 8 then ⟨8, 0, 0, c.f3, c.f4, 0, 0, 0, 0, 0, 0, false⟩
  else if c.f0 = 9 then ⟨9, 0, 0, c.f3, 0, 0, 0, 0, 0, 0, 0, false⟩
  else if c.f0 = 10 then ⟨10, 0, 0, 0, 0, 0, 0, 0, 0, c.f9, 0, false⟩
  else if c.f0 = 11 then ⟨11, 0, 0, c.f3, 0, 0, 0, c.f7, c.f8, 0, 0, false⟩
  else ⟨0, 0, 0, 0, 0, 0, 0, 0, 0, 0, 0, false⟩
set_option maxRecDepth 100000 in
set_option maxHeartbeats 8000000 in
theorem clean_c : Calls Tryd.prog 26 #[.agg (cmdA c)] w fun e w' => e = .returned (.agg (cmdA (cleanC c))) ∧ Below w.heap.size w w' := by
  have hu39 := Tryd.underlying39
  have H := HB.start w
  obtain ⟨k, a1, a2, a3, a4, a5, a6, a7, a8, a9, a10, a11⟩ := c
  have hk : k = 1 ∨ k = 2 ∨ k = 3 ∨ k = 4 ∨ k = 5 ∨ k = 6 ∨ k = 7 ∨ k = 8 ∨ k = 9 ∨ k = 10 ∨ k = 11 ∨ k = 12 ∨ (((k == 1) = false ∧ (k == 2) = false ∧ (k == 3) = false ∧ (k == 4) = false ∧ (k == 5) = false ∧ (k == 6) = false) ∧ (k == 7) = false ∧ (k == 8) = false ∧ (k == 9) = false ∧ (k == 10) = false ∧ (k == 11) = false ∧ (k == 12) = false) := by
    simp only [beq_eq_false_iff_ne]; omega
  rcases hk with rfl | rfl | rfl | rfl | rfl | rfl | rfl | rfl | rfl | rfl | rfl | rfl | ⟨⟨z1, z2, z3, z4, z5, z6⟩, z7, z8, z9, z10, z11, z12⟩
  all_goals
    show Calls _ _ #[.agg #[_, _, _, _, _, _, _, _, _, _, _, _]] w _
    go_enter Tryd.func26, Tryd.ntmps26
    go_wp2_with (first
   | ((with_reducible refine gate_box rfl ?_); refine hb_box rfl rfl H rfl ?_; intro gb W1 hgb H1; clear H; have H := H1; clear H1)
   | ((with_reducible refine gate_alloc rfl ?_); refine hb_alloc rfl rfl H zero39 ?_; intro g W1 hg H1; clear H; have H := H1; clear H1)
   | ((with_reducible refine gate_load rfl ?_); first
      | refine hb_load rfl rfl H rfl (k := 0) rfl Tryd.underlying3 rfl rfl ?_
      | refine hb_load rfl rfl H rfl (k := 0) rfl Tryd.underlying37 rfl rfl ?_
      | refine hb_load rfl rfl H rfl (k := 0) rfl Tryd.underlying4 rfl rfl ?_
      | refine hb_loadRow rfl rfl H rfl (k := 0) rfl Tryd.underlying39 rfl (by kernel_rfl) ?_
      | refine hb_load rfl rfl H rfl (k := 1) rfl Tryd.underlying3 rfl rfl ?_
      | refine hb_load rfl rfl H rfl (k := 1) rfl Tryd.underlying37 rfl rfl ?_
      | refine hb_load rfl rfl H rfl (k := 1) rfl Tryd.underlying4 rfl rfl ?_
      | refine hb_loadRow rfl rfl H rfl (k := 1) rfl Tryd.underlying39 rfl (by kernel_rfl) ?_
      | refine hb_load rfl rfl H rfl (k := 2) rfl Tryd.underlying3 rfl rfl ?_
      | refine hb_load rfl rfl H rfl (k := 2) rfl Tryd.underlying37 rfl rfl ?_
      | refine hb_load rfl rfl H rfl (k := 2) rfl Tryd.underlying4 rfl rfl ?_
      | refine hb_loadRow rfl rfl H rfl (k := 2) rfl Tryd.underlying39 rfl (by kernel_rfl) ?_)
   | ((with_reducible refine gate_st rfl ?_); (first
      | refine hb_storeRow rfl rfl rfl H rfl (k := 0) rfl rfl (by kernel_rfl) rfl (by rfl) ?_
      | refine hb_storeI rfl rfl rfl H rfl (k := 0) rfl rfl (by kernel_rfl) rfl ?_
      | refine hb_storeB rfl rfl rfl H rfl (k := 0) rfl rfl (by kernel_rfl) rfl ?_
      | refine hb_storeRow rfl rfl rfl H rfl (k := 1) rfl rfl (by kernel_rfl) rfl (by rfl) ?_
      | refine hb_storeI rfl rfl rfl H rfl (k := 1) rfl rfl (by kernel_rfl) rfl ?_
      | refine hb_storeB rfl rfl rfl H rfl (k := 1) rfl rfl (by kernel_rfl) rfl ?_
      | refine hb_storeRow rfl rfl rfl H rfl (k := 2) rfl rfl (by kernel_rfl) rfl (by rfl) ?_
      | refine hb_storeI rfl rfl rfl H rfl (k := 2) rfl rfl (by kernel_rfl) rfl ?_
      | refine hb_storeB rfl rfl rfl H rfl (k := 2) rfl rfl (by kernel_rfl) rfl ?_); intro W1 H1; clear H; simp only [List.setIfInBounds_toArray, List.set_cons_zero, List.set_cons_succ] at H1; have H := H1; clear H1))
    try (
      ((first
        | refine lex_start (.t 0 (.t 1 (.t 2 (.t 3 (.t 4 (.t 5 (.t 6 (.t 7 (.t 8 (.t 9 (.t 10 (.e 11 (.t 12 (.e 13 (.t 14 (.e 15 (.t 16 (.e 17 (.t 18 (.e 19 .n)))))))))))))))))))) (by kernel_rfl) (by decide +kernel) (H.drew.sub1 2 rfl) (fun _ _ d _ _ h => by cases d <;> exact h) (fun _ => ?_)
        | refine lex_start (.t 0 (.t 1 (.t 2 (.t 3 (.t 4 (.e 5 (.t 6 (.e 7 .n)))))))) (by kernel_rfl) (by decide +kernel) (H.drew.sub1 2 rfl) (fun _ _ d _ _ h => by cases d <;> exact h) (fun _ => ?_)
        | refine lex_start (.t 0 (.t 1 (.t 2 (.t 3 (.t 4 (.t 5 (.t 6 (.t 7 (.t 8 (.e 9 (.t 10 (.e 11 (.t 12 (.e 13 (.t 14 (.e 15 .n)))))))))))))))) (by kernel_rfl) (by decide +kernel) (H.drew.sub1 2 rfl) (fun _ _ d _ _ h => by cases d <;> exact h) (fun _ => ?_)
        | refine lex_start (.t 0 (.t 1 (.t 2 (.t 3 (.t 4 (.t 5 (.t 6 (.e 7 (.t 8 (.e 9 (.t 10 (.e 11 .n)))))))))))) (by kernel_rfl) (by decide +kernel) (H.drew.sub1 2 rfl) (fun _ _ d _ _ h => by cases d <;> exact h) (fun _ => ?_)); replace H := H.drew)
      repeat' (first
       | (refine lexg_load rfl rfl ?_; first
          | (refine lex_load rfl rfl rfl rfl rfl (k := 0) rfl Tryd.underlying3 rfl rfl (by simp only [Act.put, List.setIfInBounds_toArray, List.set_cons_zero, List.set_cons_succ]; rfl) ?_)
          | (refine lex_load rfl rfl rfl rfl rfl (k := 0) rfl Tryd.underlying37 rfl rfl (by simp only [Act.put, List.setIfInBounds_toArray, List.set_cons_zero, List.set_cons_succ]; rfl) ?_)
          | (refine lex_load rfl rfl rfl rfl rfl (k := 0) rfl Tryd.underlying4 rfl rfl (by simp only [Act.put, List.setIfInBounds_toArray, List.set_cons_zero, List.set_cons_succ]; rfl) ?_))
       | (refine lexg_pure ?_; refine lex_pure rfl rfl rfl (by intro W1 h1; go_simp; with_reducible rfl) (by simp only [Act.put, List.setIfInBounds_toArray, List.set_cons_zero, List.set_cons_succ]; rfl) ?_)
       | ((first
          | refine lex_storeI rfl rfl rfl rfl H rfl (k := 0) rfl rfl (by kernel_rfl) rfl (fun _ h => h.sub1 2 rfl) ?_
          | refine lex_storeB rfl rfl rfl rfl H rfl (k := 0) rfl rfl (by kernel_rfl) rfl (fun _ h => h.sub1 2 rfl) ?_); intro W1 H1; clear H; simp only [List.setIfInBounds_toArray, List.set_cons_zero, List.set_cons_succ] at H1; have H := H1; clear H1)
       | refine lex_done ?_)
      go_wp2_with (first
   | ((with_reducible refine gate_box rfl ?_); refine hb_box rfl rfl H rfl ?_; intro gb W1 hgb H1; clear H; have H := H1; clear H1)
   | ((with_reducible refine gate_alloc rfl ?_); refine hb_alloc rfl rfl H zero39 ?_; intro g W1 hg H1; clear H; have H := H1; clear H1)
   | ((with_reducible refine gate_load rfl ?_); first
      | refine hb_load rfl rfl H rfl (k := 0) rfl Tryd.underlying3 rfl rfl ?_
      | refine hb_load rfl rfl H rfl (k := 0) rfl Tryd.underlying37 rfl rfl ?_
      | refine hb_load rfl rfl H rfl (k := 0) rfl Tryd.underlying4 rfl rfl ?_
      | refine hb_loadRow rfl rfl H rfl (k := 0) rfl Tryd.underlying39 rfl (by kernel_rfl) ?_
      | refine hb_load rfl rfl H rfl (k := 1) rfl Tryd.underlying3 rfl rfl ?_
      | refine hb_load rfl rfl H rfl (k := 1) rfl Tryd.underlying37 rfl rfl ?_
      | refine hb_load rfl rfl H rfl (k := 1) rfl Tryd.underlying4 rfl rfl ?_
      | refine hb_loadRow rfl rfl H rfl (k := 1) rfl Tryd.underlying39 rfl (by kernel_rfl) ?_
      | refine hb_load rfl rfl H rfl (k := 2) rfl Tryd.underlying3 rfl rfl ?_
      | refine hb_load rfl rfl H rfl (k := 2) rfl Tryd.underlying37 rfl rfl ?_
      | refine hb_load rfl rfl H rfl (k := 2) rfl Tryd.underlying4 rfl rfl ?_
      | refine hb_loadRow rfl rfl H rfl (k := 2) rfl Tryd.underlying39 rfl (by kernel_rfl) ?_)
   | ((with_reducible refine gate_st rfl ?_); (first
      | refine hb_storeRow rfl rfl rfl H rfl (k := 0) rfl rfl (by kernel_rfl) rfl (by rfl) ?_
      | refine hb_storeI rfl rfl rfl H rfl (k := 0) rfl rfl (by kernel_rfl) rfl ?_
      | refine hb_storeB rfl rfl rfl H rfl (k := 0) rfl rfl (by kernel_rfl) rfl ?_
      | refine hb_storeRow rfl rfl rfl H rfl (k := 1) rfl rfl (by kernel_rfl) rfl (by rfl) ?_
      | refine hb_storeI rfl rfl rfl H rfl (k := 1) rfl rfl (by kernel_rfl) rfl ?_
      | refine hb_storeB rfl rfl rfl H rfl (k := 1) rfl rfl (by kernel_rfl) rfl ?_
      | refine hb_storeRow rfl rfl rfl H rfl (k := 2) rfl rfl (by kernel_rfl) rfl (by rfl) ?_
      | refine hb_storeI rfl rfl rfl H rfl (k := 2) rfl rfl (by kernel_rfl) rfl ?_
      | refine hb_storeB rfl rfl rfl H rfl (k := 2) rfl rfl (by kernel_rfl) rfl ?_); intro W1 H1; clear H; simp only [List.setIfInBounds_toArray, List.set_cons_zero, List.set_cons_succ] at H1; have H := H1; clear H1)))
    try (
      ((first
        | refine lex_start (.t 0 (.t 1 (.t 2 (.t 3 (.t 4 (.t 5 (.t 6 (.t 7 (.t 8 (.t 9 (.t 10 (.e 11 (.t 12 (.e 13 (.t 14 (.e 15 (.t 16 (.e 17 (.t 18 (.e 19 .n)))))))))))))))))))) (by kernel_rfl) (by decide +kernel) (H.drew.sub1 2 rfl) (fun _ _ d _ _ h => by cases d <;> exact h) (fun _ => ?_)
        | refine lex_start (.t 0 (.t 1 (.t 2 (.t 3 (.t 4 (.e 5 (.t 6 (.e 7 .n)))))))) (by kernel_rfl) (by decide +kernel) (H.drew.sub1 2 rfl) (fun _ _ d _ _ h => by cases d <;> exact h) (fun _ => ?_)
        | refine lex_start (.t 0 (.t 1 (.t 2 (.t 3 (.t 4 (.t 5 (.t 6 (.t 7 (.t 8 (.e 9 (.t 10 (.e 11 (.t 12 (.e 13 (.t 14 (.e 15 .n)))))))))))))))) (by kernel_rfl) (by decide +kernel) (H.drew.sub1 2 rfl) (fun _ _ d _ _ h => by cases d <;> exact h) (fun _ => ?_)
        | refine lex_start (.t 0 (.t 1 (.t 2 (.t 3 (.t 4 (.t 5 (.t 6 (.e 7 (.t 8 (.e 9 (.t 10 (.e 11 .n)))))))))))) (by kernel_rfl) (by decide +kernel) (H.drew.sub1 2 rfl) (fun _ _ d _ _ h => by cases d <;> exact h) (fun _ => ?_)); replace H := H.drew)
      repeat' (first
       | (refine lexg_load rfl rfl ?_; first
          | (refine lex_load rfl rfl rfl rfl rfl (k := 0) rfl Tryd.underlying3 rfl rfl (by simp only [Act.put, List.setIfInBounds_toArray, List.set_cons_zero, List.set_cons_succ]; rfl) ?_)
          | (refine lex_load rfl rfl rfl rfl rfl (k := 0) rfl Tryd.underlying37 rfl rfl (by simp only [Act.put, List.setIfInBounds_toArray, List.set_cons_zero, List.set_cons_succ]; rfl) ?_)
          | (refine lex_load rfl rfl rfl rfl rfl (k := 0) rfl Tryd.underlying4 rfl rfl (by simp only [Act.put, List.setIfInBounds_toArray, List.set_cons_zero, List.set_cons_succ]; rfl) ?_))
       | (refine lexg_pure ?_; refine lex_pure rfl rfl rfl (by intro W1 h1; go_simp; with_reducible rfl) (by simp only [Act.put, List.setIfInBounds_toArray, List.set_cons_zero, List.set_cons_succ]; rfl) ?_)
       | ((first
          | refine lex_storeI rfl rfl rfl rfl H rfl (k := 0) rfl rfl (by kernel_rfl) rfl (fun _ h => h.sub1 2 rfl) ?_
          | refine lex_storeB rfl rfl rfl rfl H rfl (k := 0) rfl rfl (by kernel_rfl) rfl (fun _ h => h.sub1 2 rfl) ?_); intro W1 H1; clear H; simp only [List.setIfInBounds_toArray, List.set_cons_zero, List.set_cons_succ] at H1; have H := H1; clear H1)
       | refine lex_done ?_)
      go_wp2_with (first
   | ((with_reducible refine gate_box rfl ?_); refine hb_box rfl rfl H rfl ?_; intro gb W1 hgb H1; clear H; have H := H1; clear H1)
   | ((with_reducible refine gate_alloc rfl ?_); refine hb_alloc rfl rfl H zero39 ?_; intro g W1 hg H1; clear H; have H := H1; clear H1)
   | ((with_reducible refine gate_load rfl ?_); first
      | refine hb_load rfl rfl H rfl (k := 0) rfl Tryd.underlying3 rfl rfl ?_
      | refine hb_load rfl rfl H rfl (k := 0) rfl Tryd.underlying37 rfl rfl ?_
      | refine hb_load rfl rfl H rfl (k := 0) rfl Tryd.underlying4 rfl rfl ?_
      | refine hb_loadRow rfl rfl H rfl (k := 0) rfl Tryd.underlying39 rfl (by kernel_rfl) ?_
      | refine hb_load rfl rfl H rfl (k := 1) rfl Tryd.underlying3 rfl rfl ?_
      | refine hb_load rfl rfl H rfl (k := 1) rfl Tryd.underlying37 rfl rfl ?_
      | refine hb_load rfl rfl H rfl (k := 1) rfl Tryd.underlying4 rfl rfl ?_
      | refine hb_loadRow rfl rfl H rfl (k := 1) rfl Tryd.underlying39 rfl (by kernel_rfl) ?_
      | refine hb_load rfl rfl H rfl (k := 2) rfl Tryd.underlying3 rfl rfl ?_
      | refine hb_load rfl rfl H rfl (k := 2) rfl Tryd.underlying37 rfl rfl ?_
      | refine hb_load rfl rfl H rfl (k := 2) rfl Tryd.underlying4 rfl rfl ?_
      | refine hb_loadRow rfl rfl H rfl (k := 2) rfl Tryd.underlying39 rfl (by kernel_rfl) ?_)
   | ((with_reducible refine gate_st rfl ?_); (first
      | refine hb_storeRow rfl rfl rfl H rfl (k := 0) rfl rfl (by kernel_rfl) rfl (by rfl) ?_
      | refine hb_storeI rfl rfl rfl H rfl (k := 0) rfl rfl (by kernel_rfl) rfl ?_
      | refine hb_storeB rfl rfl rfl H rfl (k := 0) rfl rfl (by kernel_rfl) rfl ?_
      | refine hb_storeRow rfl rfl rfl H rfl (k := 1) rfl rfl (by kernel_rfl) rfl (by rfl) ?_
      | refine hb_storeI rfl rfl rfl H rfl (k := 1) rfl rfl (by kernel_rfl) rfl ?_
      | refine hb_storeB rfl rfl rfl H rfl (k := 1) rfl rfl (by kernel_rfl) rfl ?_
      | refine hb_storeRow rfl rfl rfl H rfl (k := 2) rfl rfl (by kernel_rfl) rfl (by rfl) ?_
      | refine hb_storeI rfl rfl rfl H rfl (k := 2) rfl rfl (by kernel_rfl) rfl ?_
      | refine hb_storeB rfl rfl rfl H rfl (k := 2) rfl rfl (by kernel_rfl) rfl ?_); intro W1 H1; clear H; simp only [List.setIfInBounds_toArray, List.set_cons_zero, List.set_cons_succ] at H1; have H := H1; clear H1)))
    (try simp only [beq_eq_false_iff_ne] at z1 z2 z3 z4 z5 z6 z7 z8 z9 z10 z11 z12)
    exact bodyPost_ret (results_single rfl (.cell _ _ _ _ _ rfl (H.get (k := 1) rfl) hu39 rfl (by kernel_rfl) .nil)) rfl ⟨by simp [cleanC, cmdA, *], H.below⟩
end Go.Proofs.YtkkjjogbfjahgaaDoor.Sm
