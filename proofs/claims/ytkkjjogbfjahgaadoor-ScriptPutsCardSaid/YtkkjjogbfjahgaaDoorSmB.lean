/- A command and a step for the reference: contracts. Conditions: none beyond the arguments' form. -/
import Derived.Test.YtkkjjogbfjahgaaDoorHB
import Derived.Test.YtkkjjogbfjahgaaDoorSmA
import Derived.LoopN
set_option linter.unusedVariables false
set_option linter.unusedSimpArgs false
namespace Go.Proofs.YtkkjjogbfjahgaaDoor.Sm
open Go Go.Proofs Go.RowKit Go.Proofs.YtkkjjogbfjahgaaDoorW.PrintWords Go.Proofs.YtkkjjogbfjahgaaDoorW.PrintLast Go.Proofs.YtkkjjogbfjahgaaDoorW.PrintMore Go.Proofs.YtkkjjogbfjahgaaDoor.PSc
/-- the reference's command: its kind, and its fields -/
def rcA (k : Int) (F : List Int) : Array Value := (Value.int .i64 k :: F.map (Value.int .i64)).toArray
def ownF (c : S39) : List Int := [c.f1, c.f2, c.f3, c.f4, c.f5, c.f6, c.f7, c.f8, c.f9, c.f10, if c.f11 = true then 1 else 0]
theorem zero32 (w : World) : (zeroValue 32).run Tryd.prog w = .ok (.agg #[.int .i64 0, .int .i64 0, .int .i64 0, .int .i64 0, .int .i64 0, .int .i64 0, .int .i64 0, .int .i64 0, .int .i64 0, .int .i64 0, .int .i64 0, .int .i64 0]) w := by kernel_rfl
set_option maxRecDepth 100000 in
theorem own22_c (c : S39) (w : World) : Calls Tryd.prog 23 #[.agg (cmdA c)] w fun e w' => e = .returned (.agg (rcA c.f0 (ownF c))) ∧ Below w.heap.size w w' := by
  have hu39 := Tryd.underlying39
  have H := HB.start w
  obtain ⟨k, a1, a2, a3, a4, a5, a6, a7, a8, a9, a10, a11⟩ := c
  cases a11
  all_goals
    show Calls _ _ #[.agg #[_, _, _, _, _, _, _, _, _, _, _, _]] w _
    go_enter Tryd.func23, Tryd.ntmps23
    go_wp2_with (first
   | ((with_reducible refine gate_box rfl ?_); refine hb_box rfl rfl H rfl ?_; intro gb W1 hgb H1; clear H; have H := H1; clear H1)
   | ((with_reducible refine gate_alloc rfl ?_); refine hb_alloc rfl rfl H zero32 ?_; intro g W1 hg H1; clear H; have H := H1; clear H1)
   | ((with_reducible refine gate_load rfl ?_); first
      | refine hb_load rfl rfl H rfl (k := 0) rfl Tryd.underlying3 rfl rfl ?_
      | refine hb_load rfl rfl H rfl (k := 0) rfl Tryd.underlying37 rfl rfl ?_
      | refine hb_load rfl rfl H rfl (k := 0) rfl Tryd.underlying4 rfl rfl ?_
      | refine hb_load rfl rfl H rfl (k := 1) rfl Tryd.underlying3 rfl rfl ?_
      | refine hb_load rfl rfl H rfl (k := 1) rfl Tryd.underlying37 rfl rfl ?_
      | refine hb_load rfl rfl H rfl (k := 1) rfl Tryd.underlying4 rfl rfl ?_)
   | ((with_reducible refine gate_st rfl ?_); (first
      | refine hb_storeRow rfl rfl rfl H rfl (k := 0) rfl rfl (by kernel_rfl) rfl (by rfl) ?_
      | refine hb_storeRow rfl rfl rfl H rfl (k := 1) rfl rfl (by kernel_rfl) rfl (by rfl) ?_); intro W1 H1; clear H; simp only [List.setIfInBounds_toArray, List.set_cons_zero, List.set_cons_succ] at H1; have H := H1; clear H1))
    exact bodyPost_ret (results_single rfl (.cell _ _ _ _ _ rfl (H.get (k := 0) rfl) Tryd.underlying32 rfl (by kernel_rfl) .nil)) rfl ⟨rfl, H.below⟩
/-- a step's cells; the reference's step's -/
def stepA (s : S42) : Array Value := #[.int .i64 s.f0, .int .i64 s.f1.f0, .int .i64 s.f1.f1, .int .i64 s.f1.f2, .int .i64 s.f1.f3, .int .i64 s.f1.f4, .int .i64 s.f1.f5, .int .i64 s.f1.f6, .int .i64 s.f1.f7, .int .i64 s.f1.f8, .int .i64 s.f1.f9, .int .i64 s.f1.f10, .bool s.f1.f11, .string s.f2, .int .i64 s.f3, .int .i64 s.f4.f0, .int .i64 s.f4.f1, .int .i64 s.f4.f2, .int .i64 s.f4.f3]
structure RS where
  kind : Int
  mkd : Int
  F : List Int
  line : ByteArray
  N : List Int
def rsA (s : RS) : Array Value := (Value.int .i64 s.kind :: Value.int .i64 s.mkd :: (s.F.map (Value.int .i64) ++ Value.string s.line :: s.N.map (Value.int .i64))).toArray
def ownS (s : S42) : RS := ⟨s.f0, s.f1.f0, ownF s.f1, s.f2, if s.f0 = 3 then [s.f4.f0, s.f4.f1, s.f4.f2, s.f4.f3] else [s.f3, 0, 0, 0]⟩
theorem zero35 (w : World) : (zeroValue 35).run Tryd.prog w = .ok (.agg #[.int .i64 0, .int .i64 0, .int .i64 0, .int .i64 0, .int .i64 0, .int .i64 0, .int .i64 0, .int .i64 0, .int .i64 0, .int .i64 0, .int .i64 0, .int .i64 0, .int .i64 0, .string (⟨#[]⟩ : ByteArray), .int .i64 0, .int .i64 0, .int .i64 0, .int .i64 0]) w := by kernel_rfl
set_option maxRecDepth 100000 in
set_option maxHeartbeats 4000000 in
theorem own28_c (s : S42) (w : World) : Calls Tryd.prog 8 #[.agg (stepA s)] w fun e w' => e = .returned (.agg (rsA (ownS s))) ∧ Below w.heap.size w w' := by
  have hu42 := Tryd.underlying42
  have hu35 := Tryd.underlying35
  have H := HB.start w
  obtain ⟨k, ⟨m0, m1, m2, m3, m4, m5, m6, m7, m8, m9, m10, m11⟩, ln, n, ⟨p0, p1, p2, p3⟩⟩ := s
  show Calls _ _ #[.agg #[_, _, _, _, _, _, _, _, _, _, _, _, _, _, _, _, _, _, _]] w _
  obtain ⟨hv, hhv⟩ : ∃ hv : Int, hv = if m11 = true then 1 else 0 := ⟨_, rfl⟩
  have HV := Aside0.mk hhv
  clear hhv
  by_cases h3 : k = 3
  · have hk : (k == 3) = true := by simp [h3]
    go_enter Tryd.func8, Tryd.ntmps8
    go_wp2_with (first
   | ((with_reducible refine gate_box rfl ?_); refine hb_box rfl rfl H rfl ?_; intro gb W1 hgb H1; clear H; have H := H1; clear H1)
   | ((with_reducible refine gate_alloc rfl ?_); refine hb_alloc rfl rfl H zero35 ?_; intro g W1 hg H1; clear H; have H := H1; clear H1)
   | ((with_reducible refine gate_load rfl ?_); first
      | refine hb_load rfl rfl H rfl (k := 0) rfl Tryd.underlying3 rfl rfl ?_
      | refine hb_loadRow rfl rfl H rfl (k := 0) rfl Tryd.underlying35 rfl (by kernel_rfl) ?_
      | refine hb_load rfl rfl H rfl (k := 1) rfl Tryd.underlying3 rfl rfl ?_
      | refine hb_loadRow rfl rfl H rfl (k := 1) rfl Tryd.underlying35 rfl (by kernel_rfl) ?_
      | refine hb_load rfl rfl H rfl (k := 2) rfl Tryd.underlying3 rfl rfl ?_
      | refine hb_loadRow rfl rfl H rfl (k := 2) rfl Tryd.underlying35 rfl (by kernel_rfl) ?_)
   | ((with_reducible refine gate_st rfl ?_); (first
      | refine hb_storeRow rfl rfl rfl H rfl (k := 0) rfl rfl (by kernel_rfl) rfl (by rfl) ?_
      | refine hb_storeI rfl rfl rfl H rfl (k := 0) rfl rfl (by kernel_rfl) rfl ?_
      | refine hb_storeRow rfl rfl rfl H rfl (k := 1) rfl rfl (by kernel_rfl) rfl (by rfl) ?_
      | refine hb_storeI rfl rfl rfl H rfl (k := 1) rfl rfl (by kernel_rfl) rfl ?_
      | refine hb_storeRow rfl rfl rfl H rfl (k := 2) rfl rfl (by kernel_rfl) rfl (by rfl) ?_
      | refine hb_storeI rfl rfl rfl H rfl (k := 2) rfl rfl (by kernel_rfl) rfl ?_); intro W1 H1; clear H; simp only [List.setIfInBounds_toArray, List.set_cons_zero, List.set_cons_succ] at H1; have H := H1; clear H1))
    ((first
      | refine lex_start (.t 0 (.t 1 (.t 2 (.t 3 (.t 5 (.t 6 (.t 7 (.t 8 (.t 9 (.b 4 11 (.t 10 (.e 11 (.e 12 .n))) (.e 4 (.t 10 (.e 12 .n))))))))))))) (by kernel_rfl) (by decide +kernel) (H.drew.sub1 1 rfl) (fun _ _ d _ _ h => by cases d <;> exact h) (fun _ => ?_)); replace H := H.drew)
    repeat' (first
     | (refine lex_part rfl rfl rfl rfl rfl (k := 0) rfl Tryd.underlying39 rfl 12 (by kernel_rfl) rfl (by simp only [List.drop_succ_cons, List.drop_zero, List.take_succ_cons, List.take_zero]; rfl) (by simp only [Act.put, List.setIfInBounds_toArray, List.set_cons_zero, List.set_cons_succ]; rfl) ?_)
     | (refine lex_two ?_ ?_)
     | (refine lex_call rfl rfl rfl rfl Tryd.func23 (by kernel_rfl) rfl (by simp only [List.map_toArray, List.map_cons, List.map_nil]; rfl) ?_; refine (own22_c ⟨m0, m1, m2, m3, m4, m5, m6, m7, m8, m9, m10, m11⟩ _).mono ?_; rintro e w2 ⟨rfl, B2⟩; replace H := H.call B2; refine ⟨.agg #[.int .i64 m0, .int .i64 m1, .int .i64 m2, .int .i64 m3, .int .i64 m4, .int .i64 m5, .int .i64 m6, .int .i64 m7, .int .i64 m8, .int .i64 m9, .int .i64 m10, .int .i64 hv], (by rw [HV.out]; rfl), (by first | exact H.sub1 1 rfl | exact H.sub1 2 rfl), ?_⟩)
     | (refine lex_alloc rfl rfl rfl rfl H zero35 (fun _ h => h.sub1 2 rfl) ?_; intro g W1 H1; replace H := H1; clear H1)
     | (refine lex_storeRow rfl rfl rfl rfl H rfl (k := 0) rfl rfl (by kernel_rfl) rfl (by rfl) (fun _ h => h.sub1 2 rfl) ?_; intro W1 H1; simp only [List.setIfInBounds_toArray, List.set_cons_zero, List.set_cons_succ] at H1; replace H := H1; clear H1)
     | (refine lexg_load rfl rfl ?_; first
        | (refine lex_load rfl rfl rfl rfl rfl (k := 0) rfl Tryd.underlying3 rfl rfl (by simp only [Act.put, List.setIfInBounds_toArray, List.set_cons_zero, List.set_cons_succ]; rfl) ?_)
        | (refine lex_load rfl rfl rfl rfl rfl (k := 0) rfl Tryd.underlying9 rfl rfl (by simp only [Act.put, List.setIfInBounds_toArray, List.set_cons_zero, List.set_cons_succ]; rfl) ?_))
     | (refine lexg_pure ?_; refine lex_pure rfl rfl rfl (by intro W1 h1; go_simp; with_reducible rfl) (by simp only [Act.put, List.setIfInBounds_toArray, List.set_cons_zero, List.set_cons_succ]; rfl) ?_)
     | refine lex_done ?_)
    all_goals
      go_wp2_with (first
   | ((with_reducible refine gate_box rfl ?_); refine hb_box rfl rfl H rfl ?_; intro gb W1 hgb H1; clear H; have H := H1; clear H1)
   | ((with_reducible refine gate_alloc rfl ?_); refine hb_alloc rfl rfl H zero35 ?_; intro g W1 hg H1; clear H; have H := H1; clear H1)
   | ((with_reducible refine gate_load rfl ?_); first
      | refine hb_load rfl rfl H rfl (k := 0) rfl Tryd.underlying3 rfl rfl ?_
      | refine hb_loadRow rfl rfl H rfl (k := 0) rfl Tryd.underlying35 rfl (by kernel_rfl) ?_
      | refine hb_load rfl rfl H rfl (k := 1) rfl Tryd.underlying3 rfl rfl ?_
      | refine hb_loadRow rfl rfl H rfl (k := 1) rfl Tryd.underlying35 rfl (by kernel_rfl) ?_
      | refine hb_load rfl rfl H rfl (k := 2) rfl Tryd.underlying3 rfl rfl ?_
      | refine hb_loadRow rfl rfl H rfl (k := 2) rfl Tryd.underlying35 rfl (by kernel_rfl) ?_)
   | ((with_reducible refine gate_st rfl ?_); (first
      | refine hb_storeRow rfl rfl rfl H rfl (k := 0) rfl rfl (by kernel_rfl) rfl (by rfl) ?_
      | refine hb_storeI rfl rfl rfl H rfl (k := 0) rfl rfl (by kernel_rfl) rfl ?_
      | refine hb_storeRow rfl rfl rfl H rfl (k := 1) rfl rfl (by kernel_rfl) rfl (by rfl) ?_
      | refine hb_storeI rfl rfl rfl H rfl (k := 1) rfl rfl (by kernel_rfl) rfl ?_
      | refine hb_storeRow rfl rfl rfl H rfl (k := 2) rfl rfl (by kernel_rfl) rfl (by rfl) ?_
      | refine hb_storeI rfl rfl rfl H rfl (k := 2) rfl rfl (by kernel_rfl) rfl ?_); intro W1 H1; clear H; simp only [List.setIfInBounds_toArray, List.set_cons_zero, List.set_cons_succ] at H1; have H := H1; clear H1))
      refine wp_loop_rounds 5 ?_
      iterate 5 (rw [rounds_succ]; go_wp2_with (first
   | ((with_reducible refine gate_box rfl ?_); refine hb_box rfl rfl H rfl ?_; intro gb W1 hgb H1; clear H; have H := H1; clear H1)
   | ((with_reducible refine gate_alloc rfl ?_); refine hb_alloc rfl rfl H zero35 ?_; intro g W1 hg H1; clear H; have H := H1; clear H1)
   | ((with_reducible refine gate_load rfl ?_); first
      | refine hb_load rfl rfl H rfl (k := 0) rfl Tryd.underlying3 rfl rfl ?_
      | refine hb_loadRow rfl rfl H rfl (k := 0) rfl Tryd.underlying35 rfl (by kernel_rfl) ?_
      | refine hb_load rfl rfl H rfl (k := 1) rfl Tryd.underlying3 rfl rfl ?_
      | refine hb_loadRow rfl rfl H rfl (k := 1) rfl Tryd.underlying35 rfl (by kernel_rfl) ?_
      | refine hb_load rfl rfl H rfl (k := 2) rfl Tryd.underlying3 rfl rfl ?_
      | refine hb_loadRow rfl rfl H rfl (k := 2) rfl Tryd.underlying35 rfl (by kernel_rfl) ?_)
   | ((with_reducible refine gate_st rfl ?_); (first
      | refine hb_storeRow rfl rfl rfl H rfl (k := 0) rfl rfl (by kernel_rfl) rfl (by rfl) ?_
      | refine hb_storeI rfl rfl rfl H rfl (k := 0) rfl rfl (by kernel_rfl) rfl ?_
      | refine hb_storeRow rfl rfl rfl H rfl (k := 1) rfl rfl (by kernel_rfl) rfl (by rfl) ?_
      | refine hb_storeI rfl rfl rfl H rfl (k := 1) rfl rfl (by kernel_rfl) rfl ?_
      | refine hb_storeRow rfl rfl rfl H rfl (k := 2) rfl rfl (by kernel_rfl) rfl (by rfl) ?_
      | refine hb_storeI rfl rfl rfl H rfl (k := 2) rfl rfl (by kernel_rfl) rfl ?_); intro W1 H1; clear H; simp only [List.setIfInBounds_toArray, List.set_cons_zero, List.set_cons_succ] at H1; have H := H1; clear H1)))
    all_goals exact bodyPost_ret (results_single rfl (.cell _ _ _ _ _ rfl (H.get (k := 1) rfl) hu35 rfl (by kernel_rfl) .nil)) rfl ⟨by rw [HV.out]; simp [rsA, ownS, ownF, *], H.below⟩
  · have hk : (k == 3) = false := by simp [h3]
    go_enter Tryd.func8, Tryd.ntmps8
    go_wp2_with (first
   | ((with_reducible refine gate_box rfl ?_); refine hb_box rfl rfl H rfl ?_; intro gb W1 hgb H1; clear H; have H := H1; clear H1)
   | ((with_reducible refine gate_alloc rfl ?_); refine hb_alloc rfl rfl H zero35 ?_; intro g W1 hg H1; clear H; have H := H1; clear H1)
   | ((with_reducible refine gate_load rfl ?_); first
      | refine hb_load rfl rfl H rfl (k := 0) rfl Tryd.underlying3 rfl rfl ?_
      | refine hb_loadRow rfl rfl H rfl (k := 0) rfl Tryd.underlying35 rfl (by kernel_rfl) ?_
      | refine hb_load rfl rfl H rfl (k := 1) rfl Tryd.underlying3 rfl rfl ?_
      | refine hb_loadRow rfl rfl H rfl (k := 1) rfl Tryd.underlying35 rfl (by kernel_rfl) ?_
      | refine hb_load rfl rfl H rfl (k := 2) rfl Tryd.underlying3 rfl rfl ?_
      | refine hb_loadRow rfl rfl H rfl (k := 2) rfl Tryd.underlying35 rfl (by kernel_rfl) ?_)
   | ((with_reducible refine gate_st rfl ?_); (first
      | refine hb_storeRow rfl rfl rfl H rfl (k := 0) rfl rfl (by kernel_rfl) rfl (by rfl) ?_
      | refine hb_storeI rfl rfl rfl H rfl (k := 0) rfl rfl (by kernel_rfl) rfl ?_
      | refine hb_storeRow rfl rfl rfl H rfl (k := 1) rfl rfl (by kernel_rfl) rfl (by rfl) ?_
      | refine hb_storeI rfl rfl rfl H rfl (k := 1) rfl rfl (by kernel_rfl) rfl ?_
      | refine hb_storeRow rfl rfl rfl H rfl (k := 2) rfl rfl (by kernel_rfl) rfl (by rfl) ?_
      | refine hb_storeI rfl rfl rfl H rfl (k := 2) rfl rfl (by kernel_rfl) rfl ?_); intro W1 H1; clear H; simp only [List.setIfInBounds_toArray, List.set_cons_zero, List.set_cons_succ] at H1; have H := H1; clear H1))
    ((first
      | refine lex_start (.t 0 (.t 1 (.t 2 (.t 3 (.t 5 (.t 6 (.t 7 (.t 8 (.t 9 (.b 4 11 (.t 10 (.e 11 (.e 12 .n))) (.e 4 (.t 10 (.e 12 .n))))))))))))) (by kernel_rfl) (by decide +kernel) (H.drew.sub1 1 rfl) (fun _ _ d _ _ h => by cases d <;> exact h) (fun _ => ?_)); replace H := H.drew)
    repeat' (first
     | (refine lex_part rfl rfl rfl rfl rfl (k := 0) rfl Tryd.underlying39 rfl 12 (by kernel_rfl) rfl (by simp only [List.drop_succ_cons, List.drop_zero, List.take_succ_cons, List.take_zero]; rfl) (by simp only [Act.put, List.setIfInBounds_toArray, List.set_cons_zero, List.set_cons_succ]; rfl) ?_)
     | (refine lex_two ?_ ?_)
     | (refine lex_call rfl rfl rfl rfl Tryd.func23 (by kernel_rfl) rfl (by simp only [List.map_toArray, List.map_cons, List.map_nil]; rfl) ?_; refine (own22_c ⟨m0, m1, m2, m3, m4, m5, m6, m7, m8, m9, m10, m11⟩ _).mono ?_; rintro e w2 ⟨rfl, B2⟩; replace H := H.call B2; refine ⟨.agg #[.int .i64 m0, .int .i64 m1, .int .i64 m2, .int .i64 m3, .int .i64 m4, .int .i64 m5, .int .i64 m6, .int .i64 m7, .int .i64 m8, .int .i64 m9, .int .i64 m10, .int .i64 hv], (by rw [HV.out]; rfl), (by first | exact H.sub1 1 rfl | exact H.sub1 2 rfl), ?_⟩)
     | (refine lex_alloc rfl rfl rfl rfl H zero35 (fun _ h => h.sub1 2 rfl) ?_; intro g W1 H1; replace H := H1; clear H1)
     | (refine lex_storeRow rfl rfl rfl rfl H rfl (k := 0) rfl rfl (by kernel_rfl) rfl (by rfl) (fun _ h => h.sub1 2 rfl) ?_; intro W1 H1; simp only [List.setIfInBounds_toArray, List.set_cons_zero, List.set_cons_succ] at H1; replace H := H1; clear H1)
     | (refine lexg_load rfl rfl ?_; first
        | (refine lex_load rfl rfl rfl rfl rfl (k := 0) rfl Tryd.underlying3 rfl rfl (by simp only [Act.put, List.setIfInBounds_toArray, List.set_cons_zero, List.set_cons_succ]; rfl) ?_)
        | (refine lex_load rfl rfl rfl rfl rfl (k := 0) rfl Tryd.underlying9 rfl rfl (by simp only [Act.put, List.setIfInBounds_toArray, List.set_cons_zero, List.set_cons_succ]; rfl) ?_))
     | (refine lexg_pure ?_; refine lex_pure rfl rfl rfl (by intro W1 h1; go_simp; with_reducible rfl) (by simp only [Act.put, List.setIfInBounds_toArray, List.set_cons_zero, List.set_cons_succ]; rfl) ?_)
     | refine lex_done ?_)
    all_goals
      go_wp2_with (first
   | ((with_reducible refine gate_box rfl ?_); refine hb_box rfl rfl H rfl ?_; intro gb W1 hgb H1; clear H; have H := H1; clear H1)
   | ((with_reducible refine gate_alloc rfl ?_); refine hb_alloc rfl rfl H zero35 ?_; intro g W1 hg H1; clear H; have H := H1; clear H1)
   | ((with_reducible refine gate_load rfl ?_); first
      | refine hb_load rfl rfl H rfl (k := 0) rfl Tryd.underlying3 rfl rfl ?_
      | refine hb_loadRow rfl rfl H rfl (k := 0) rfl Tryd.underlying35 rfl (by kernel_rfl) ?_
      | refine hb_load rfl rfl H rfl (k := 1) rfl Tryd.underlying3 rfl rfl ?_
      | refine hb_loadRow rfl rfl H rfl (k := 1) rfl Tryd.underlying35 rfl (by kernel_rfl) ?_
      | refine hb_load rfl rfl H rfl (k := 2) rfl Tryd.underlying3 rfl rfl ?_
      | refine hb_loadRow rfl rfl H rfl (k := 2) rfl Tryd.underlying35 rfl (by kernel_rfl) ?_)
   | ((with_reducible refine gate_st rfl ?_); (first
      | refine hb_storeRow rfl rfl rfl H rfl (k := 0) rfl rfl (by kernel_rfl) rfl (by rfl) ?_
      | refine hb_storeI rfl rfl rfl H rfl (k := 0) rfl rfl (by kernel_rfl) rfl ?_
      | refine hb_storeRow rfl rfl rfl H rfl (k := 1) rfl rfl (by kernel_rfl) rfl (by rfl) ?_
      | refine hb_storeI rfl rfl rfl H rfl (k := 1) rfl rfl (by kernel_rfl) rfl ?_
      | refine hb_storeRow rfl rfl rfl H rfl (k := 2) rfl rfl (by kernel_rfl) rfl (by rfl) ?_
      | refine hb_storeI rfl rfl rfl H rfl (k := 2) rfl rfl (by kernel_rfl) rfl ?_); intro W1 H1; clear H; simp only [List.setIfInBounds_toArray, List.set_cons_zero, List.set_cons_succ] at H1; have H := H1; clear H1))
    all_goals exact bodyPost_ret (results_single rfl (.cell _ _ _ _ _ rfl (H.get (k := 1) rfl) hu35 rfl (by kernel_rfl) .nil)) rfl ⟨by rw [HV.out]; simp [rsA, ownS, ownF, *], H.below⟩
end Go.Proofs.YtkkjjogbfjahgaaDoor.Sm
