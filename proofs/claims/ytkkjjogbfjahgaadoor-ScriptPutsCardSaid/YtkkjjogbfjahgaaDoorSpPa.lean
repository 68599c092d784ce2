/- Clean of a command by the reference, Right and Clean of both, the reference's PutInt, its laying of a command. Conditions: those that each theorem states. -/
import Derived.Test.YtkkjjogbfjahgaaDoorSmC
import Derived.Test.YtkkjjogbfjahgaaDoorSmB
import Derived.Outline
import Derived.Test.YtkkjjogbfjahgaaDoorSmF
import Derived.Test.YtkkjjogbfjahgaaDoorSameI
import Derived.Test.YtkkjjogbfjahgaaDoorPScx0
import Derived.Lib.SliceRun
set_option linter.unusedVariables false
set_option linter.unusedSimpArgs false
namespace Go.Proofs.YtkkjjogbfjahgaaDoor.Sm
open Go Go.Proofs Go.RowKit Go.Proofs.YtkkjjogbfjahgaaDoorW.PrintWords Go.Proofs.YtkkjjogbfjahgaaDoorW.PrintLast Go.Proofs.YtkkjjogbfjahgaaDoorW.PrintMore Go.Proofs.YtkkjjogbfjahgaaDoor.PSc
theorem list11' : ∀ (xs : List Int), xs.length = 11 → ∃ v0 v1 v2 v3 v4 v5 v6 v7 v8 v9 v10, xs = [v0, v1, v2, v3, v4, v5, v6, v7, v8, v9, v10]
  | [v0, v1, v2, v3, v4, v5, v6, v7, v8, v9, v10], _ => ⟨_, _, _, _, _, _, _, _, _, _, _, rfl⟩
theorem list4' : ∀ (xs : List Int), xs.length = 4 → ∃ v0 v1 v2 v3, xs = [v0, v1, v2, v3]
  | [v0, v1, v2, v3], _ => ⟨_, _, _, _, rfl⟩
theorem maskF_len' (f : ByteArray) : ∀ (n i : Nat) (F : List Int), (maskF f n i F).length = F.length
  | 0, _, _ => rfl
  | n + 1, i, F => by rw [maskF, maskF_len' f n]; split <;> simp
theorem cleanR_len' (k : Int) (F : List Int) (h : F.length = 11) : (cleanR k F).2.length = 11 := by
  unfold cleanR; split
  · rfl
  · rw [maskF_len']; exact h
def cleanRS (s : RS) : RS :=
  if s.kind = 0 then ⟨0, (cleanR s.mkd s.F).1, (cleanR s.mkd s.F).2, ⟨#[]⟩, [0, 0, 0, 0]⟩
  else if s.kind = 1 then ⟨1, 0, [0, 0, 0, 0, 0, 0, 0, 0, 0, 0, 0], s.line, [0, 0, 0, 0]⟩
  else if s.kind = 2 then ⟨2, 0, [0, 0, 0, 0, 0, 0, 0, 0, 0, 0, 0], ⟨#[]⟩, [s.N.getD 0 0, 0, 0, 0]⟩
  else if s.kind = 3 then ⟨3, 0, [0, 0, 0, 0, 0, 0, 0, 0, 0, 0, 0], ⟨#[]⟩, s.N⟩
  else if s.kind = 4 ∨ s.kind = 5 then ⟨s.kind, 0, [0, 0, 0, 0, 0, 0, 0, 0, 0, 0, 0], ⟨#[]⟩, [0, 0, 0, 0]⟩
  else ⟨0, 0, [0, 0, 0, 0, 0, 0, 0, 0, 0, 0, 0], ⟨#[]⟩, [0, 0, 0, 0]⟩
set_option maxRecDepth 100000 in
set_option maxHeartbeats 4000000 in
theorem clean28_c (s : RS) (hF : s.F.length = 11) (hN : s.N.length = 4) (w : World) : Calls Tryd.prog 13 #[.agg (rsA s)] w fun e w' => e = .returned (.agg (rsA (cleanRS s))) ∧ Below w.heap.size w w' := by
  have hu35 := Tryd.underlying35
  have hu32 := Tryd.underlying32
  have hu33 := Tryd.underlying33
  have H := HB.start w
  obtain ⟨k, mk, F, ln, N⟩ := s
  dsimp only at hF hN
  have C27 := clean22_c mk F hF
  have hcl := cleanR_len' mk F hF
  obtain ⟨c0, C, hC⟩ : ∃ c0 C, cleanR mk F = (c0, C) := ⟨_, _, rfl⟩
  rw [hC] at hcl
  simp only [hC] at C27
  obtain ⟨f0, f1, f2, f3, f4, f5, f6, f7, f8, f9, f10, rfl⟩ := list11' F hF
  obtain ⟨g0, g1, g2, g3, g4, g5, g6, g7, g8, g9, g10, rfl⟩ := list11' C hcl
  obtain ⟨n0, n1, n2, n3, rfl⟩ := list4' N hN
  have HC : Aside0 (∀ w, Calls Tryd.prog 27 #[.agg #[.int .i64 mk, .int .i64 f0, .int .i64 f1, .int .i64 f2, .int .i64 f3, .int .i64 f4, .int .i64 f5, .int .i64 f6, .int .i64 f7, .int .i64 f8, .int .i64 f9, .int .i64 f10]] w fun e w' => e = .returned (.agg #[.int .i64 c0, .int .i64 g0, .int .i64 g1, .int .i64 g2, .int .i64 g3, .int .i64 g4, .int .i64 g5, .int .i64 g6, .int .i64 g7, .int .i64 g8, .int .i64 g9, .int .i64 g10]) ∧ Below w.heap.size w w') := ⟨C27⟩
  obtain ⟨R, hR⟩ : ∃ R, R = cleanRS ⟨k, mk, [f0, f1, f2, f3, f4, f5, f6, f7, f8, f9, f10], ln, [n0, n1, n2, n3]⟩ := ⟨_, rfl⟩
  rw [← hR]
  unfold cleanRS at hR
  dsimp only at hR
  rw [hC] at hR
  have HR := Aside0.mk hR
  clear hR C27 hC hcl
  have hk : k = 0 ∨ k = 1 ∨ k = 2 ∨ k = 3 ∨ k = 4 ∨ k = 5 ∨ ((k == 0) = false ∧ (k == 1) = false ∧ (k == 2) = false ∧ (k == 3) = false ∧ (k == 4) = false ∧ (k == 5) = false) := by
    simp only [beq_eq_false_iff_ne]; omega
  show Calls _ _ #[.agg #[_, _, _, _, _, _, _, _, _, _, _, _, _, _, _, _, _, _]] w _
  rcases hk with rfl | rfl | rfl | rfl | rfl | rfl | ⟨z0, z1, z2, z3, z4, z5⟩
  all_goals
    go_enter Tryd.func13, Tryd.ntmps13
    go_wp2_with (first
   | ((with_reducible refine gate_load rfl ?_); first
      | refine hb_part rfl rfl H rfl (k := 1) rfl Tryd.underlying32 rfl 12 (by kernel_rfl) rfl (by simp only [List.drop_succ_cons, List.drop_zero, List.take_succ_cons, List.take_zero]; rfl) ?_
      | refine hb_part rfl rfl H rfl (k := 1) rfl Tryd.underlying33 rfl 4 (by kernel_rfl) rfl (by simp only [List.drop_succ_cons, List.drop_zero, List.take_succ_cons, List.take_zero]; rfl) ?_)
   | ((with_reducible refine (HC.out _).mono ?_); rintro e w2 ⟨rfl, B2⟩; replace H := H.call B2; clear B2)
   | ((with_reducible refine gate_box rfl ?_); refine hb_box rfl rfl H rfl ?_; intro gb W1 hgb H1; clear H; have H := H1; clear H1)
   | ((with_reducible refine gate_alloc rfl ?_); refine hb_alloc rfl rfl H zero35 ?_; intro g W1 hg H1; clear H; have H := H1; clear H1)
   | ((with_reducible refine gate_load rfl ?_); first
      | refine hb_load rfl rfl H rfl (k := 0) rfl Tryd.underlying3 rfl rfl ?_
      | refine hb_load rfl rfl H rfl (k := 0) rfl Tryd.underlying9 rfl rfl ?_
      | refine hb_load rfl rfl H rfl (k := 0) rfl Tryd.underlying2 rfl rfl ?_
      | refine hb_load rfl rfl H rfl (k := 1) rfl Tryd.underlying3 rfl rfl ?_
      | refine hb_load rfl rfl H rfl (k := 1) rfl Tryd.underlying9 rfl rfl ?_
      | refine hb_load rfl rfl H rfl (k := 1) rfl Tryd.underlying2 rfl rfl ?_)
   | ((with_reducible refine gate_st rfl ?_); (first
      | refine hb_storeRow rfl rfl rfl H rfl (k := 0) rfl rfl (by kernel_rfl) rfl (by rfl) ?_
      | refine hb_storeRow rfl rfl rfl H rfl (k := 1) rfl rfl (by kernel_rfl) rfl (by rfl) ?_); intro W1 H1; clear H; simp only [List.setIfInBounds_toArray, List.set_cons_zero, List.set_cons_succ] at H1; have H := H1; clear H1))
    refine bodyPost_ret (results_single rfl (.cell _ _ _ _ _ rfl (H.get (k := 0) rfl) hu35 rfl (by kernel_rfl) .nil)) rfl ⟨?_, H.below⟩
    rw [HR.out]
    (try simp only [beq_eq_false_iff_ne] at z0 z1 z2 z3 z4 z5)
    simp [rsA, *]
end Go.Proofs.YtkkjjogbfjahgaaDoor.Sm
set_option linter.unusedVariables false
set_option linter.unusedSimpArgs false
/- Plain: Right and Clean of a command, of a step, by the program and by the reference. -/
namespace Go.Proofs.YtkkjjogbfjahgaaDoor.Sm
open Go Go.Proofs Go.RowKit Go.Proofs.CodBytes Go.Proofs.YtkkjjogbfjahgaaDoorW.PrintWords Go.Proofs.YtkkjjogbfjahgaaDoorW.PrintLast Go.Proofs.YtkkjjogbfjahgaaDoorW.PrintMore Go.Proofs.YtkkjjogbfjahgaaDoor.PSc
theorem fb_none (k : Int) (h : ¬ (1 ≤ k ∧ k ≤ 12)) : fieldsB k = ⟨#[]⟩ := by
  have h1 : k ≠ 1 := by omega
  have h2 : k ≠ 2 := by omega
  have h3 : k ≠ 3 := by omega
  have h4 : k ≠ 4 := by omega
  have h5 : k ≠ 5 := by omega
  have h6 : k ≠ 6 := by omega
  have h7 : k ≠ 7 := by omega
  have h8 : k ≠ 8 := by omega
  have h9 : k ≠ 9 := by omega
  have h10 : k ≠ 10 := by omega
  have h11 : k ≠ 11 := by omega
  have h12 : k ≠ 12 := by omega
  unfold fieldsB berthingref22_Fields.f berthingref22_Fields.j0
  simp [h1, h2, h3, h4, h5, h6, h7, h8, h9, h10, h11, h12]
theorem right_own (c : S39) : rightR c.f0 (ownF c) = rightC c := by
  obtain ⟨k, a1, a2, a3, a4, a5, a6, a7, a8, a9, a10, b⟩ := c
  unfold ownF
  dsimp only
  have hb : ((if b = true then (1 : Int) else 0) == 0 || (if b = true then (1 : Int) else 0) == 1) = true := by cases b <;> rfl
  by_cases hk : 1 ≤ k ∧ k ≤ 12
  · rcases (show k = 1 ∨ k = 2 ∨ k = 3 ∨ k = 4 ∨ k = 5 ∨ k = 6 ∨ k = 7 ∨ k = 8 ∨ k = 9 ∨ k = 10 ∨ k = 11 ∨ k = 12 by omega) with rfl | rfl | rfl | rfl | rfl | rfl | rfl | rfl | rfl | rfl | rfl | rfl
    · rw [rR1]; simp only [m45, m73, m85, m80, m87, m78, m65, m110, m119, m84, m77, m72, hb]; simp [rightC, inB] <;> (try (rw [Bool.eq_iff_iff]; simp only [Bool.and_eq_true, decide_eq_true_eq]; omega))
    · rw [rR2]; simp only [m45, m73, m85, m80, m87, m78, m65, m110, m119, m84, m77, m72, hb]; simp [rightC, inB] <;> (try (rw [Bool.eq_iff_iff]; simp only [Bool.and_eq_true, decide_eq_true_eq]; omega))
    · rw [rR3]; simp only [m45, m73, m85, m80, m87, m78, m65, m110, m119, m84, m77, m72, hb]; simp [rightC, inB] <;> (try (rw [Bool.eq_iff_iff]; simp only [Bool.and_eq_true, decide_eq_true_eq]; omega))
    · rw [rR4]; simp only [m45, m73, m85, m80, m87, m78, m65, m110, m119, m84, m77, m72, hb]; simp [rightC, inB] <;> (try (rw [Bool.eq_iff_iff]; simp only [Bool.and_eq_true, decide_eq_true_eq]; omega))
    · rw [rR5]; simp only [m45, m73, m85, m80, m87, m78, m65, m110, m119, m84, m77, m72, hb]; simp [rightC, inB] <;> (try (rw [Bool.eq_iff_iff]; simp only [Bool.and_eq_true, decide_eq_true_eq]; omega))
    · rw [rR6]; simp only [m45, m73, m85, m80, m87, m78, m65, m110, m119, m84, m77, m72, hb]; simp [rightC, inB] <;> (try (rw [Bool.eq_iff_iff]; simp only [Bool.and_eq_true, decide_eq_true_eq]; omega))
    · rw [rR7]; simp only [m45, m73, m85, m80, m87, m78, m65, m110, m119, m84, m77, m72, hb]; simp [rightC, inB] <;> (try (rw [Bool.eq_iff_iff]; simp only [Bool.and_eq_true, decide_eq_true_eq]; omega))
    · rw [rR8]; simp only [m45, m73, m85, m80, m87, m78, m65, m110, m119, m84, m77, m72, hb]; simp [rightC, inB] <;> (try (rw [Bool.eq_iff_iff]; simp only [Bool.and_eq_true, decide_eq_true_eq]; omega))
    · rw [rR9]; simp only [m45, m73, m85, m80, m87, m78, m65, m110, m119, m84, m77, m72, hb]; simp [rightC, inB] <;> (try (rw [Bool.eq_iff_iff]; simp only [Bool.and_eq_true, decide_eq_true_eq]; omega))
    · rw [rR10]; simp only [m45, m73, m85, m80, m87, m78, m65, m110, m119, m84, m77, m72, hb]; simp [rightC, inB] <;> (try (rw [Bool.eq_iff_iff]; simp only [Bool.and_eq_true, decide_eq_true_eq]; omega))
    · rw [rR11]; simp only [m45, m73, m85, m80, m87, m78, m65, m110, m119, m84, m77, m72, hb]; simp [rightC, inB] <;> (try (rw [Bool.eq_iff_iff]; simp only [Bool.and_eq_true, decide_eq_true_eq]; omega))
    · rw [rR12]; simp only [m45, m73, m85, m80, m87, m78, m65, m110, m119, m84, m77, m72, hb]; simp [rightC, inB] <;> (try (rw [Bool.eq_iff_iff]; simp only [Bool.and_eq_true, decide_eq_true_eq]; omega))
  · have h1 : rightR k [a1, a2, a3, a4, a5, a6, a7, a8, a9, a10, if b = true then 1 else 0] = false := by
      unfold rightR; rw [fb_none k hk]; rfl
    rw [h1]
    unfold rightC
    dsimp only
    rw [if_neg (by omega), if_neg (by omega), if_neg (by omega), if_neg (by omega), if_neg (by omega), if_neg (by omega), if_neg (by omega), if_neg (by omega), if_neg (by omega)]
theorem clean_own (c : S39) : cleanR c.f0 (ownF c) = ((cleanC c).f0, ownF (cleanC c)) := by
  obtain ⟨k, a1, a2, a3, a4, a5, a6, a7, a8, a9, a10, b⟩ := c
  unfold ownF
  dsimp only
  by_cases hk : 1 ≤ k ∧ k ≤ 12
  · rcases (show k = 1 ∨ k = 2 ∨ k = 3 ∨ k = 4 ∨ k = 5 ∨ k = 6 ∨ k = 7 ∨ k = 8 ∨ k = 9 ∨ k = 10 ∨ k = 11 ∨ k = 12 by omega) with rfl | rfl | rfl | rfl | rfl | rfl | rfl | rfl | rfl | rfl | rfl | rfl
    · rw [cR1]; simp [cleanC]
    · rw [cR2]; simp [cleanC]
    · rw [cR3]; simp [cleanC]
    · rw [cR4]; simp [cleanC]
    · rw [cR5]; simp [cleanC]
    · rw [cR6]; simp [cleanC]
    · rw [cR7]; simp [cleanC]
    · rw [cR8]; simp [cleanC]
    · rw [cR9]; simp [cleanC]
    · rw [cR10]; simp [cleanC]
    · rw [cR11]; simp [cleanC]
    · rw [cR12]; simp [cleanC]
  · have h1 : cleanR k [a1, a2, a3, a4, a5, a6, a7, a8, a9, a10, if b = true then 1 else 0] = (0, [0, 0, 0, 0, 0, 0, 0, 0, 0, 0, 0]) := by
      unfold cleanR; rw [fb_none k hk]; rfl
    rw [h1]
    unfold cleanC
    dsimp only
    rw [if_neg (by omega), if_neg (by omega), if_neg (by omega), if_neg (by omega), if_neg (by omega), if_neg (by omega), if_neg (by omega), if_neg (by omega), if_neg (by omega)]
    rfl
end Go.Proofs.YtkkjjogbfjahgaaDoor.Sm
namespace Go.Proofs.YtkkjjogbfjahgaaDoor.PSc
open Go.RowKit Go.Proofs.YtkkjjogbfjahgaaDoorW.PrintWords Go.Proofs.YtkkjjogbfjahgaaDoorW.PrintLast Go.Proofs.YtkkjjogbfjahgaaDoorW.PrintMore
attribute [local go_sem] max2_int min2_int max_two min_two max_three min_three max_four min_four   -- for this text's walks alone
set_option linter.unusedVariables false
set_option linter.unusedSimpArgs false
/-! ### berthingref02_Fold: function 52 -/
def berthingref02_Fold.f (a0 : Int) : Option (Int) := if a0 < 0 then (some (IntKind.u64.wrap ((IntKind.u64.wrap (2 * (IntKind.u64.wrap (wrap64 (-(wrap64 (a0 + 1))))))) + 1))) else (some (IntKind.u64.wrap (2 * (IntKind.u64.wrap (a0)))))
set_option maxHeartbeats 8000000 in
set_option maxRecDepth 100000 in
theorem berthingref02_Fold.calls (a0 : Int) (r : Int) (w : World) (h : berthingref02_Fold.f a0 = some r) :
  Calls Tryd.prog 52 #[.int .i64 a0] w fun e w' => e = .returned (.int .u64 r) ∧ Drawn0 w w' := by
 have H : (if a0 < 0 then (some (IntKind.u64.wrap ((IntKind.u64.wrap (2 * (IntKind.u64.wrap (wrap64 (-(wrap64 (a0 + 1))))))) + 1))) else (some (IntKind.u64.wrap (2 * (IntKind.u64.wrap (a0)))))) = some r := h
 clear h
 by_cases c2 : a0 < 0
 ·rw [if_pos c2] at H
  have c2b0 : decide (a0 < 0) = true := decide_eq_true c2
  clear c2
  obtain rfl := Option.some.inj H
  go_enter Tryd.func52, Tryd.ntmps52
  go_wp2
  go_ret
  exact ⟨by first | rfl | (simp; done) | (simp; unfold wrap64; omega) | (simp [*]; done), by repeat (first | exact Drawn0.refl _ | apply Drawn0.step)⟩
 ·rw [if_neg c2] at H
  have c2b0 : decide (a0 < 0) = false := decide_eq_false c2
  clear c2
  obtain rfl := Option.some.inj H
  go_enter Tryd.func52, Tryd.ntmps52
  go_wp2
  go_ret
  exact ⟨by first | rfl | (simp; done) | (simp; unfold wrap64; omega) | (simp [*]; done), by repeat (first | exact Drawn0.refl _ | apply Drawn0.step)⟩

/-! ### berthingref02_PutInt: function 29 -/
def berthingref02_PutInt.l0 : Nat → ByteArray → Int → Option (ByteArray)
 | 0, _, _ => none
 | k + 1, x0, x5 => if x5 ≥ 128 then ((some (([(IntKind.u64.wrap ((Int.tmod x5 128) + 128)) % 256] : List Int) : List Int)).bind fun y332 => (if x0.size + (strOfNums y332).size ≤ 9223372036854775807 then (berthingref02_PutInt.l0 k (x0 ++ (strOfNums y332)) (IntKind.u64.wrap (Int.tdiv x5 128))) else (none))) else ((some (([(x5) % 256] : List Int) : List Int)).bind fun y335 => (if x0.size + (strOfNums y335).size ≤ 9223372036854775807 then (some (x0 ++ (strOfNums y335))) else (none)))
def berthingref02_PutInt.f (k : Nat) (a0 : ByteArray) (a1 : Int) : Option (ByteArray) := (berthingref02_Fold.f a1).bind fun t331 => (berthingref02_PutInt.l0 k a0 t331)
theorem berthingref02_PutInt.mono_l : ∀ k, (∀ y0 y1, LeO (berthingref02_PutInt.l0 k y0 y1) (berthingref02_PutInt.l0 (k + 1) y0 y1))
 | 0 => fun _ _ r h => by simp [berthingref02_PutInt.l0] at h
 | k + 1 => by
  have ih0 := berthingref02_PutInt.mono_l k
  ·intro y0 y1
   unfold berthingref02_PutInt.l0
   repeat' first
   | (with_reducible exact ih0 _ _)
   | (with_reducible exact LeO.refl _)
   | (with_reducible exact LeO.none _)
   | (with_reducible refine LeO.ite ?_ ?_)
   | (with_reducible refine LeO.bind ?_ (fun _ => ?_))
   | exact ih0 _ _
   | exact LeO.none _
   | refine LeO.ite ?_ ?_
   | refine LeO.bind ?_ (fun _ => ?_)
theorem berthingref02_PutInt.mono : ∀ a0 a1 k, LeO (berthingref02_PutInt.f k a0 a1) (berthingref02_PutInt.f (k + 1) a0 a1) := by
 intro a0 a1 k
 have ih0 := berthingref02_PutInt.mono_l k
 unfold berthingref02_PutInt.f
 repeat' first
   | (with_reducible exact ih0 _ _)
   | (with_reducible exact LeO.refl _)
   | (with_reducible exact LeO.none _)
   | (with_reducible refine LeO.ite ?_ ?_)
   | (with_reducible refine LeO.bind ?_ (fun _ => ?_))
   | exact ih0 _ _
   | exact LeO.none _
   | refine LeO.ite ?_ ?_
   | refine LeO.bind ?_ (fun _ => ?_)
set_option maxHeartbeats 8000000 in
set_option maxRecDepth 100000 in
theorem berthingref02_PutInt.calls (k : Nat) (a0 : ByteArray) (a1 : Int) (r : ByteArray) (w : World) (h : berthingref02_PutInt.f k a0 a1 = some r) :
  Calls Tryd.prog 29 #[.string a0, .int .i64 a1] w fun e w' => e = .returned (.string r) ∧ Below w.heap.size w w' := by
 have HB := Aside0.mk (Below.refl w.heap.size w)
 have H : ((berthingref02_Fold.f a1).bind fun t331 => (berthingref02_PutInt.l0 k a0 t331)) = some r := h
 clear h
 replace H := Option.bind_eq_some_iff.mp H
 obtain ⟨t331, A30, H⟩ := H
 replace H : (berthingref02_PutInt.l0 k a0 t331) = some r := H
 have A3 := Aside0.mk A30
 clear A30
 have H' := Aside0.mk H
 clear H
 go_enter Tryd.func29, Tryd.ntmps29
 go_wp2_with (first | ((with_reducible refine gate_callee (f := 52) rfl ?_); refine goesL_ (some 7) rfl rfl Tryd.func52 (by kernel_rfl) rfl #[.int .i64 a1] rfl (by (try simp only [List.map_toArray, List.map_cons, List.map_nil]); first | done | rfl | (simp only [List.length_drop, List.length_take]; rfl)) ?_; (with_reducible refine (berthingref02_Fold.calls a1 t331 _ A3.out).mono ?_); rintro e w' ⟨rfl, ⟨nd, rfl⟩⟩; refine ⟨_, rfl, ?_⟩))
 go_loopg [0, 5] k (fun kq v0 v5 w' => ∃ (x0_1 : ByteArray) (x5_1 : Int), v0 = .string x0_1 ∧ v5 = .int .u64 x5_1 ∧ Aside0 (berthingref02_PutInt.l0 kq x0_1 x5_1 = some r) ∧ Aside0 (kq ≤ k) ∧ Aside0 (Below w.heap.size w w'))
 case atStart => exact ⟨(a0), (t331), (by first | rfl | (simp; done) | (simp; unfold wrap64; omega) | (simp [*]; done)), (by first | rfl | (simp; done) | (simp; unfold wrap64; omega) | (simp [*]; done)), H', ⟨Nat.le_refl _⟩, ⟨by repeat (first | (with_reducible first | exact HB.out | apply below_alloc | apply pw_below_drewN | apply below_drew1) | exact HB.out)⟩⟩
 case round =>
  clear H'
  try clear c2
  try clear p2
  obtain ⟨x0_1, x5_1, rfl, rfl, HA, HK1, HB⟩ := hrel
  cases gk with
  | zero => exact absurd HA.out (by simp [berthingref02_PutInt.l0])
  | succ k1 =>
   have H := HA.out
   clear HA
   simp only [berthingref02_PutInt.l0] at H
   by_cases c4 : x5_1 ≥ 128
   ·rw [if_pos c4] at H
    have c4b0 : decide (128 ≤ x5_1) = true := decide_eq_true c4
    clear c4
    obtain ⟨y332, hy332⟩ : ∃ y_ : List Int, y_ = (([(IntKind.u64.wrap ((Int.tmod x5_1 128) + 128)) % 256] : List Int)) := ⟨_, rfl⟩
    replace H : (if x0_1.size + (strOfNums y332).size ≤ 9223372036854775807 then (berthingref02_PutInt.l0 k1 (x0_1 ++ (strOfNums y332)) (IntKind.u64.wrap (Int.tdiv x5_1 128))) else (none)) = some r := by first | (rw [hy332]; with_reducible exact H) | (have H2_ := (Option.bind_some _ _).symm.trans H; rw [hy332]; with_reducible exact H2_) | (have H2_ := (Option.bind_some _ _).symm.trans H; with_reducible exact H2_) | with_reducible exact H | (rw [hy332]; exact H) | exact H
    have Ny332 := Aside0.mk hy332
    clear hy332
    by_cases c5 : x0_1.size + (strOfNums y332).size ≤ 9223372036854775807
    ·rw [if_pos c5] at H
     have c5b0 := eq_true c5
     have c5b1 : decide (x0_1.size + (strOfNums y332).size ≤ 9223372036854775807) = true := decide_eq_true c5
     try have c5b2 : (9223372036854775807 < x0_1.size + (strOfNums y332).size) = False := eq_false (Nat.not_lt.2 c5)
     have H' := Aside0.mk H
     clear H
     go_wp2_with (first | ((with_reducible refine gate_dst (N := 15) rfl ?_); refine Kd.R_lit (Kd.int .u8) _ 5 ?hg (N := 15) ?hd (xs := ([(IntKind.u64.wrap ((Int.tmod x5_1 128) + 128)) % 256] : List Int)) (inner := [.int .u8 ((IntKind.u64.wrap ((Int.tmod x5_1 128) + 128)) % 256)]) (ok := fun _ => True) (okp := fun _ => True) ?hr ?hp (fun _ hk => hk) trivial (Below.refl _ _) (Nat.le_refl _) (by simp) ?_; (case hd => rfl); (case hg => rfl); (case hr => first | (go_simp; done) | (go_simp; rfl)); (case hp => exact (Reps.one (show Kd.M (Kd.int .u8) _ _ _ ((IntKind.u64.wrap ((Int.tmod x5_1 128) + 128)) % 256) [.int .u8 ((IntKind.u64.wrap ((Int.tmod x5_1 128) + 128)) % 256)] from rfl) (Reps.none _ _))); intro v333 w6 ho7 hb hg_ hnew_; clear hg_ hnew_; (first | rw [← Ny332.out] at ho7 | (simp only [Int.reduceToNat] at ho7; rw [← Ny332.out] at ho7)); have n0_ := Aside0.mk (Kd.R_lower ho7 (below_size (by repeat (first | (with_reducible first | exact HB.out | apply below_alloc | apply pw_below_drewN | apply below_drew1) | exact HB.out)))); have n1_ := Aside0.mk (below_step (by repeat (first | (with_reducible first | exact HB.out | apply below_alloc | apply pw_below_drewN | apply below_drew1) | exact HB.out)) hb); clear HB; have HO334 := n0_; have HB := n1_; clear n0_ n1_; clear hb ho7; have hcv8 := own_string (P := Tryd.prog) Tryd.underlying22 Tryd.underlying5 Tryd.underlying9 (Kd.own_of_R HO334.out)))
     go_roundg k1
     case measure => have := HK1.out; omega
     case rel => exact ⟨(x0_1 ++ (strOfNums y332)), (IntKind.u64.wrap (Int.tdiv x5_1 128)), (by first | rfl | (simp; done) | (simp; unfold wrap64; omega) | (simp [*]; done)), (by first | rfl | (simp; done) | (simp; unfold wrap64; omega) | (simp [*]; done)), H', ⟨by have := HK1.out; omega⟩, ⟨by repeat (first | (with_reducible first | exact HB.out | apply below_alloc | apply pw_below_drewN | apply below_drew1) | exact HB.out)⟩⟩
    ·rw [if_neg c5] at H
     exact absurd H (by simp)
   ·rw [if_neg c4] at H
    have c4b0 : decide (128 ≤ x5_1) = false := decide_eq_false c4
    clear c4
    obtain ⟨y335, hy335⟩ : ∃ y_ : List Int, y_ = (([(x5_1) % 256] : List Int)) := ⟨_, rfl⟩
    replace H : (if x0_1.size + (strOfNums y335).size ≤ 9223372036854775807 then (some (x0_1 ++ (strOfNums y335))) else (none)) = some r := by first | (rw [hy335]; with_reducible exact H) | (have H2_ := (Option.bind_some _ _).symm.trans H; rw [hy335]; with_reducible exact H2_) | (have H2_ := (Option.bind_some _ _).symm.trans H; with_reducible exact H2_) | with_reducible exact H | (rw [hy335]; exact H) | exact H
    have Ny335 := Aside0.mk hy335
    clear hy335
    by_cases c9 : x0_1.size + (strOfNums y335).size ≤ 9223372036854775807
    ·rw [if_pos c9] at H
     have c9b0 := eq_true c9
     have c9b1 : decide (x0_1.size + (strOfNums y335).size ≤ 9223372036854775807) = true := decide_eq_true c9
     try have c9b2 : (9223372036854775807 < x0_1.size + (strOfNums y335).size) = False := eq_false (Nat.not_lt.2 c9)
     obtain rfl := Option.some.inj H
     go_wp2_with (first | ((with_reducible refine gate_dst (N := 23) rfl ?_); refine Kd.R_lit (Kd.int .u8) _ 5 ?hg (N := 23) ?hd (xs := ([(x5_1) % 256] : List Int)) (inner := [.int .u8 ((x5_1) % 256)]) (ok := fun _ => True) (okp := fun _ => True) ?hr ?hp (fun _ hk => hk) trivial (Below.refl _ _) (Nat.le_refl _) (by simp) ?_; (case hd => rfl); (case hg => rfl); (case hr => first | (go_simp; done) | (go_simp; rfl)); (case hp => exact (Reps.one (show Kd.M (Kd.int .u8) _ _ _ ((x5_1) % 256) [.int .u8 ((x5_1) % 256)] from rfl) (Reps.none _ _))); intro v336 w10 ho11 hb hg_ hnew_; clear hg_ hnew_; (first | rw [← Ny335.out] at ho11 | (simp only [Int.reduceToNat] at ho11; rw [← Ny335.out] at ho11)); have n0_ := Aside0.mk (Kd.R_lower ho11 (below_size (by repeat (first | (with_reducible first | exact HB.out | apply below_alloc | apply pw_below_drewN | apply below_drew1) | exact HB.out)))); have n1_ := Aside0.mk (below_step (by repeat (first | (with_reducible first | exact HB.out | apply below_alloc | apply pw_below_drewN | apply below_drew1) | exact HB.out)) hb); clear HB; have HO337 := n0_; have HB := n1_; clear n0_ n1_; clear hb ho11; have hcv12 := own_string (P := Tryd.prog) Tryd.underlying22 Tryd.underlying5 Tryd.underlying9 (Kd.own_of_R HO337.out)))
     go_ret
     exact ⟨by first | rfl | (simp [errW_none, errW_some] <;> rfl) | (simp [*, errW_none, errW_some] <;> rfl), by repeat (first | (with_reducible first | exact HB.out | apply below_alloc | apply pw_below_drewN | apply below_drew1) | exact HB.out)⟩
    ·rw [if_neg c9] at H
     exact absurd H (by simp)

end Go.Proofs.YtkkjjogbfjahgaaDoor.PSc

namespace Go.Proofs.YtkkjjogbfjahgaaDoor.Sm
open Go Go.Proofs Go.RowKit Go.Proofs.CodBytes Go.Proofs.YtkkjjogbfjahgaaDoorW.PrintWords Go.Proofs.YtkkjjogbfjahgaaDoorW.PrintLast Go.Proofs.YtkkjjogbfjahgaaDoorW.PrintMore Go.Proofs.YtkkjjogbfjahgaaDoor.PSc Go.Proofs.YtkkjjogbfjahgaaDoor.CodSame
theorem refput_f : ∀ (n k : Nat) (l : List Int) (u : Int), 0 ≤ u → u < 128 ^ (n + 1) → u < 18446744073709551616 → n < k → l.length + n < 140737488355328 → berthingref02_PutInt.l0 k (strOfNums l) u = some (strOfNums (l ++ enc n u))
  | 0, k, l, u, h0, h1, h2, hk, hl => by
    obtain ⟨k, rfl⟩ : ∃ m, k = m + 1 := ⟨k - 1, by omega⟩
    simp only [berthingref02_PutInt.l0, Option.bind_some]
    rw [if_neg (by omega), if_pos (by simp only [size_str, List.length_cons, List.length_nil]; omega)]
    simp only [enc]; rw [show u % 256 = u by omega, str_append]
  | n + 1, k, l, u, h0, h1, h2, hk, hl => by
    obtain ⟨k, rfl⟩ : ∃ m, k = m + 1 := ⟨k - 1, by omega⟩
    simp only [berthingref02_PutInt.l0, enc, Option.bind_some]
    by_cases h : u ≥ 128
    · rw [if_pos h, if_pos h, if_pos (by simp only [size_str, List.length_cons, List.length_nil]; omega)]
      have e : (128 : Int) ^ (n + 1 + 1) = 128 ^ (n + 1) * 128 := by rw [Int.pow_succ]
      rw [e] at h1
      have t1 : Int.tdiv u 128 = u / 128 := Int.tdiv_eq_ediv_of_nonneg h0
      have t2 : Int.tmod u 128 = u % 128 := Int.tmod_eq_emod_of_nonneg h0
      rw [t1, t2, ← str_append, show IntKind.u64.wrap (u / 128) = u / 128 by rw [IntKind.wrap_u64]; omega, show IntKind.u64.wrap (u % 128 + 128) % 256 = u % 128 + 128 by rw [IntKind.wrap_u64]; omega]
      rw [refput_f n k _ (u / 128) (by omega) (by generalize (128 : Int) ^ (n + 1) = p at *; omega) (by omega) (by omega) (by simp; omega)]
      rw [List.append_assoc]; rfl
    · rw [if_neg h, if_neg h, if_pos (by simp only [size_str, List.length_cons, List.length_nil]; omega), show u % 256 = u by omega, str_append]

theorem refPutInt_f (k : Nat) (l : List Int) (v : Int) (hv : I64 v) (hk : 10 ≤ k) (hl : l.length + 10 < 140737488355328) : berthingref02_PutInt.f k (strOfNums l) v = some (strOfNums (l ++ bytesI v)) := by
  have hr := fold_range v hv.1 hv.2
  have e : (128 : Int) ^ (9 + 1) = 1180591620717411303424 := by decide
  obtain ⟨h0, h1⟩ := hv
  have hf : berthingref02_Fold.f v = some (foldI v) := by
    unfold berthingref02_Fold.f foldI
    by_cases h : v < 0
    · rw [if_pos h, if_pos h]; congr 1; simp only [IntKind.wrap_u64]; unfold wrap64; omega
    · rw [if_neg h, if_neg h]; congr 1; simp only [IntKind.wrap_u64]; omega
  unfold berthingref02_PutInt.f
  rw [hf]; simp only [Option.bind_some]
  exact refput_f 9 k l _ hr.1 (by omega) hr.2 (by omega) (by omega)

theorem putI_c (b : List Int) (v : Int) (hv : I64 v) (hl : b.length + 10 < 140737488355328) (w : World) : Calls Tryd.prog 29 #[.string (strOfNums b), .int .i64 v] w fun e w' => e = .returned (.string (strOfNums (b ++ bytesI v))) ∧ Below w.heap.size w w' :=
  berthingref02_PutInt.calls 10 _ _ _ w (refPutInt_f 10 b v hv (by omega) hl)
end Go.Proofs.YtkkjjogbfjahgaaDoor.Sm
set_option linter.unusedVariables false
set_option linter.unusedSimpArgs false
/- The reference's Put of a command. -/
namespace Go.Proofs.YtkkjjogbfjahgaaDoor.Sm
open Go Go.Proofs Go.RowKit Go.Proofs.CodBytes Go.Proofs.YtkkjjogbfjahgaaDoorW.PrintWords Go.Proofs.YtkkjjogbfjahgaaDoorW.PrintLast Go.Proofs.YtkkjjogbfjahgaaDoorW.PrintMore Go.Proofs.YtkkjjogbfjahgaaDoor.PSc Go.Proofs.YtkkjjogbfjahgaaDoor.CodSame
def layI (ns : List Int) : List Int := ns.flatMap bytesI
theorem layI_len : ∀ (ns : List Int), (layI ns).length ≤ 10 * ns.length
  | [] => Nat.le_refl _
  | v :: r => by
    have h1 := bytesI_length v
    have h2 := layI_len r
    show (bytesI v ++ layI r).length ≤ 10 * (r.length + 1)
    rw [List.length_append]; omega
theorem layI_snoc (ns : List Int) (v : Int) : layI (ns ++ [v]) = layI ns ++ bytesI v := by simp [layI]
theorem putI_l (ns : List Int) (v : Int) (hv : I64 v) (hl : ns.length < 1000) (w : World) : Calls Tryd.prog 29 #[.string (strOfNums (layI ns)), .int .i64 v] w fun e w' => e = .returned (.string (strOfNums (layI (ns ++ [v])))) ∧ Below w.heap.size w w' := by
  rw [layI_snoc]
  exact putI_c _ v hv (by have := layI_len ns; omega) w
set_option maxRecDepth 100000 in
set_option maxHeartbeats 4000000 in
theorem put22_c (k : Int) (F : List Int) (hF : F.length = 11) (c : Int × List Int) (hc : cleanR k F = c) (h0 : I64 c.1) (h64 : ∀ v ∈ c.2, I64 v) (w : World) : Calls Tryd.prog 31 #[.agg (rcA k F)] w fun e w' => e = .returned (.string (strOfNums (layI (c.1 :: c.2)))) ∧ Below w.heap.size w w' := by
  have hu30 := Tryd.underlying30
  have hu32 := Tryd.underlying32
  have H := HB.start w
  obtain ⟨c0, C⟩ := c
  have hcl := cleanR_len' k F hF
  have C27 := clean22_c k F hF
  rw [hc] at hcl C27
  dsimp only at hcl C27 h0 h64
  obtain ⟨f0, f1, f2, f3, f4, f5, f6, f7, f8, f9, f10, rfl⟩ := list11' F hF
  obtain ⟨g0, g1, g2, g3, g4, g5, g6, g7, g8, g9, g10, rfl⟩ := list11' C hcl
  replace C27 : ∀ w, Calls Tryd.prog 27 #[.agg #[.int .i64 k, .int .i64 f0, .int .i64 f1, .int .i64 f2, .int .i64 f3, .int .i64 f4, .int .i64 f5, .int .i64 f6, .int .i64 f7, .int .i64 f8, .int .i64 f9, .int .i64 f10]] w fun e w' => e = .returned (.agg #[.int .i64 c0, .int .i64 g0, .int .i64 g1, .int .i64 g2, .int .i64 g3, .int .i64 g4, .int .i64 g5, .int .i64 g6, .int .i64 g7, .int .i64 g8, .int .i64 g9, .int .i64 g10]) ∧ Below w.heap.size w w' := C27
  replace C27 := Aside0.mk C27
  obtain ⟨b0, hb0⟩ : ∃ b, b = strOfNums (layI [c0]) := ⟨_, rfl⟩
  have P0 : Aside0 (∀ w, Calls Tryd.prog 29 #[.string (⟨#[]⟩ : ByteArray), .int .i64 c0] w fun e w' => e = .returned (.string b0) ∧ Below w.heap.size w w') := ⟨fun w => by rw [hb0]; exact putI_l [] c0 h0 (by decide) w⟩
  obtain ⟨b1, hb1⟩ : ∃ b, b = strOfNums (layI [c0, g0]) := ⟨_, rfl⟩
  have P1 : Aside0 (∀ w, Calls Tryd.prog 29 #[.string b0, .int .i64 g0] w fun e w' => e = .returned (.string b1) ∧ Below w.heap.size w w') := ⟨fun w => by rw [hb1, hb0]; exact putI_l [c0] g0 (h64 _ (by simp)) (by simp) w⟩
  obtain ⟨b2, hb2⟩ : ∃ b, b = strOfNums (layI [c0, g0, g1]) := ⟨_, rfl⟩
  have P2 : Aside0 (∀ w, Calls Tryd.prog 29 #[.string b1, .int .i64 g1] w fun e w' => e = .returned (.string b2) ∧ Below w.heap.size w w') := ⟨fun w => by rw [hb2, hb1]; exact putI_l [c0, g0] g1 (h64 _ (by simp)) (by simp) w⟩
  obtain ⟨b3, hb3⟩ : ∃ b, b = strOfNums (layI [c0, g0, g1, g2]) := ⟨_, rfl⟩
  have P3 : Aside0 (∀ w, Calls Tryd.prog 29 #[.string b2, .int .i64 g2] w fun e w' => e = .returned (.string b3) ∧ Below w.heap.size w w') := ⟨fun w => by rw [hb3, hb2]; exact putI_l [c0, g0, g1] g2 (h64 _ (by simp)) (by simp) w⟩
  obtain ⟨b4, hb4⟩ : ∃ b, b = strOfNums (layI [c0, g0, g1, g2, g3]) := ⟨_, rfl⟩
  have P4 : Aside0 (∀ w, Calls Tryd.prog 29 #[.string b3, .int .i64 g3] w fun e w' => e = .returned (.string b4) ∧ Below w.heap.size w w') := ⟨fun w => by rw [hb4, hb3]; exact putI_l [c0, g0, g1, g2] g3 (h64 _ (by simp)) (by simp) w⟩
  obtain ⟨b5, hb5⟩ : ∃ b, b = strOfNums (layI [c0, g0, g1, g2, g3, g4]) := ⟨_, rfl⟩
  have P5 : Aside0 (∀ w, Calls Tryd.prog 29 #[.string b4, .int .i64 g4] w fun e w' => e = .returned (.string b5) ∧ Below w.heap.size w w') := ⟨fun w => by rw [hb5, hb4]; exact putI_l [c0, g0, g1, g2, g3] g4 (h64 _ (by simp)) (by simp) w⟩
  obtain ⟨b6, hb6⟩ : ∃ b, b = strOfNums (layI [c0, g0, g1, g2, g3, g4, g5]) := ⟨_, rfl⟩
  have P6 : Aside0 (∀ w, Calls Tryd.prog 29 #[.string b5, .int .i64 g5] w fun e w' => e = .returned (.string b6) ∧ Below w.heap.size w w') := ⟨fun w => by rw [hb6, hb5]; exact putI_l [c0, g0, g1, g2, g3, g4] g5 (h64 _ (by simp)) (by simp) w⟩
  obtain ⟨b7, hb7⟩ : ∃ b, b = strOfNums (layI [c0, g0, g1, g2, g3, g4, g5, g6]) := ⟨_, rfl⟩
  have P7 : Aside0 (∀ w, Calls Tryd.prog 29 #[.string b6, .int .i64 g6] w fun e w' => e = .returned (.string b7) ∧ Below w.heap.size w w') := ⟨fun w => by rw [hb7, hb6]; exact putI_l [c0, g0, g1, g2, g3, g4, g5] g6 (h64 _ (by simp)) (by simp) w⟩
  obtain ⟨b8, hb8⟩ : ∃ b, b = strOfNums (layI [c0, g0, g1, g2, g3, g4, g5, g6, g7]) := ⟨_, rfl⟩
  have P8 : Aside0 (∀ w, Calls Tryd.prog 29 #[.string b7, .int .i64 g7] w fun e w' => e = .returned (.string b8) ∧ Below w.heap.size w w') := ⟨fun w => by rw [hb8, hb7]; exact putI_l [c0, g0, g1, g2, g3, g4, g5, g6] g7 (h64 _ (by simp)) (by simp) w⟩
  obtain ⟨b9, hb9⟩ : ∃ b, b = strOfNums (layI [c0, g0, g1, g2, g3, g4, g5, g6, g7, g8]) := ⟨_, rfl⟩
  have P9 : Aside0 (∀ w, Calls Tryd.prog 29 #[.string b8, .int .i64 g8] w fun e w' => e = .returned (.string b9) ∧ Below w.heap.size w w') := ⟨fun w => by rw [hb9, hb8]; exact putI_l [c0, g0, g1, g2, g3, g4, g5, g6, g7] g8 (h64 _ (by simp)) (by simp) w⟩
  obtain ⟨b10, hb10⟩ : ∃ b, b = strOfNums (layI [c0, g0, g1, g2, g3, g4, g5, g6, g7, g8, g9]) := ⟨_, rfl⟩
  have P10 : Aside0 (∀ w, Calls Tryd.prog 29 #[.string b9, .int .i64 g9] w fun e w' => e = .returned (.string b10) ∧ Below w.heap.size w w') := ⟨fun w => by rw [hb10, hb9]; exact putI_l [c0, g0, g1, g2, g3, g4, g5, g6, g7, g8] g9 (h64 _ (by simp)) (by simp) w⟩
  obtain ⟨b11, hb11⟩ : ∃ b, b = strOfNums (layI [c0, g0, g1, g2, g3, g4, g5, g6, g7, g8, g9, g10]) := ⟨_, rfl⟩
  have P11 : Aside0 (∀ w, Calls Tryd.prog 29 #[.string b10, .int .i64 g10] w fun e w' => e = .returned (.string b11) ∧ Below w.heap.size w w') := ⟨fun w => by rw [hb11, hb10]; exact putI_l [c0, g0, g1, g2, g3, g4, g5, g6, g7, g8, g9] g10 (h64 _ (by simp)) (by simp) w⟩
  have HBB := Aside0.mk hb11
  clear h0 h64 hc hcl hF hb0 hb1 hb2 hb3 hb4 hb5 hb6 hb7 hb8 hb9 hb10 hb11
  show Calls _ _ #[.agg #[_, _, _, _, _, _, _, _, _, _, _, _]] w _
  go_enter Tryd.func31, Tryd.ntmps31
  go_wp2_with (first
   | ((with_reducible refine (P0.out _).mono ?_); rintro e w2 ⟨rfl, B2⟩; replace H := H.call B2; clear B2)
   | ((with_reducible refine (C27.out _).mono ?_); rintro e w2 ⟨rfl, B2⟩; replace H := H.call B2; clear B2)
   | ((with_reducible refine gate_load rfl ?_); first
      | refine hb_loadRow rfl rfl H rfl (k := 0) rfl Tryd.underlying32 rfl (by kernel_rfl) ?_
      | refine hb_load rfl rfl H rfl (k := 0) rfl Tryd.underlying3 rfl rfl ?_
      | refine hb_load rfl rfl H rfl (k := 0) rfl Tryd.underlying2 rfl rfl ?_)
   | ((with_reducible refine gate_box rfl ?_); refine hb_box rfl rfl H rfl ?_; intro gb W1 hgb H1; clear H; have H := H1; clear H1)
   | ((with_reducible refine gate_st rfl ?_); (refine hb_storeRow rfl rfl rfl H rfl (k := 0) rfl rfl (by kernel_rfl) rfl (by rfl) ?_); intro W1 H1; clear H; simp only [List.setIfInBounds_toArray, List.set_cons_zero, List.set_cons_succ] at H1; have H := H1; clear H1))
  refine wp_loop_rounds 12 ?_
  rw [rounds_succ]
  go_wp2_with (first
   | ((with_reducible refine (P1.out _).mono ?_); rintro e w2 ⟨rfl, B2⟩; replace H := H.call B2; clear B2)
   | ((with_reducible refine (C27.out _).mono ?_); rintro e w2 ⟨rfl, B2⟩; replace H := H.call B2; clear B2)
   | ((with_reducible refine gate_load rfl ?_); first
      | refine hb_loadRow rfl rfl H rfl (k := 0) rfl Tryd.underlying32 rfl (by kernel_rfl) ?_
      | refine hb_load rfl rfl H rfl (k := 0) rfl Tryd.underlying3 rfl rfl ?_
      | refine hb_load rfl rfl H rfl (k := 0) rfl Tryd.underlying2 rfl rfl ?_)
   | ((with_reducible refine gate_box rfl ?_); refine hb_box rfl rfl H rfl ?_; intro gb W1 hgb H1; clear H; have H := H1; clear H1)
   | ((with_reducible refine gate_st rfl ?_); (refine hb_storeRow rfl rfl rfl H rfl (k := 0) rfl rfl (by kernel_rfl) rfl (by rfl) ?_); intro W1 H1; clear H; simp only [List.setIfInBounds_toArray, List.set_cons_zero, List.set_cons_succ] at H1; have H := H1; clear H1))
  rw [rounds_succ]
  go_wp2_with (first
   | ((with_reducible refine (P2.out _).mono ?_); rintro e w2 ⟨rfl, B2⟩; replace H := H.call B2; clear B2)
   | ((with_reducible refine (C27.out _).mono ?_); rintro e w2 ⟨rfl, B2⟩; replace H := H.call B2; clear B2)
   | ((with_reducible refine gate_load rfl ?_); first
      | refine hb_loadRow rfl rfl H rfl (k := 0) rfl Tryd.underlying32 rfl (by kernel_rfl) ?_
      | refine hb_load rfl rfl H rfl (k := 0) rfl Tryd.underlying3 rfl rfl ?_
      | refine hb_load rfl rfl H rfl (k := 0) rfl Tryd.underlying2 rfl rfl ?_)
   | ((with_reducible refine gate_box rfl ?_); refine hb_box rfl rfl H rfl ?_; intro gb W1 hgb H1; clear H; have H := H1; clear H1)
   | ((with_reducible refine gate_st rfl ?_); (refine hb_storeRow rfl rfl rfl H rfl (k := 0) rfl rfl (by kernel_rfl) rfl (by rfl) ?_); intro W1 H1; clear H; simp only [List.setIfInBounds_toArray, List.set_cons_zero, List.set_cons_succ] at H1; have H := H1; clear H1))
  rw [rounds_succ]
  go_wp2_with (first
   | ((with_reducible refine (P3.out _).mono ?_); rintro e w2 ⟨rfl, B2⟩; replace H := H.call B2; clear B2)
   | ((with_reducible refine (C27.out _).mono ?_); rintro e w2 ⟨rfl, B2⟩; replace H := H.call B2; clear B2)
   | ((with_reducible refine gate_load rfl ?_); first
      | refine hb_loadRow rfl rfl H rfl (k := 0) rfl Tryd.underlying32 rfl (by kernel_rfl) ?_
      | refine hb_load rfl rfl H rfl (k := 0) rfl Tryd.underlying3 rfl rfl ?_
      | refine hb_load rfl rfl H rfl (k := 0) rfl Tryd.underlying2 rfl rfl ?_)
   | ((with_reducible refine gate_box rfl ?_); refine hb_box rfl rfl H rfl ?_; intro gb W1 hgb H1; clear H; have H := H1; clear H1)
   | ((with_reducible refine gate_st rfl ?_); (refine hb_storeRow rfl rfl rfl H rfl (k := 0) rfl rfl (by kernel_rfl) rfl (by rfl) ?_); intro W1 H1; clear H; simp only [List.setIfInBounds_toArray, List.set_cons_zero, List.set_cons_succ] at H1; have H := H1; clear H1))
  rw [rounds_succ]
  go_wp2_with (first
   | ((with_reducible refine (P4.out _).mono ?_); rintro e w2 ⟨rfl, B2⟩; replace H := H.call B2; clear B2)
   | ((with_reducible refine (C27.out _).mono ?_); rintro e w2 ⟨rfl, B2⟩; replace H := H.call B2; clear B2)
   | ((with_reducible refine gate_load rfl ?_); first
      | refine hb_loadRow rfl rfl H rfl (k := 0) rfl Tryd.underlying32 rfl (by kernel_rfl) ?_
      | refine hb_load rfl rfl H rfl (k := 0) rfl Tryd.underlying3 rfl rfl ?_
      | refine hb_load rfl rfl H rfl (k := 0) rfl Tryd.underlying2 rfl rfl ?_)
   | ((with_reducible refine gate_box rfl ?_); refine hb_box rfl rfl H rfl ?_; intro gb W1 hgb H1; clear H; have H := H1; clear H1)
   | ((with_reducible refine gate_st rfl ?_); (refine hb_storeRow rfl rfl rfl H rfl (k := 0) rfl rfl (by kernel_rfl) rfl (by rfl) ?_); intro W1 H1; clear H; simp only [List.setIfInBounds_toArray, List.set_cons_zero, List.set_cons_succ] at H1; have H := H1; clear H1))
  rw [rounds_succ]
  go_wp2_with (first
   | ((with_reducible refine (P5.out _).mono ?_); rintro e w2 ⟨rfl, B2⟩; replace H := H.call B2; clear B2)
   | ((with_reducible refine (C27.out _).mono ?_); rintro e w2 ⟨rfl, B2⟩; replace H := H.call B2; clear B2)
   | ((with_reducible refine gate_load rfl ?_); first
      | refine hb_loadRow rfl rfl H rfl (k := 0) rfl Tryd.underlying32 rfl (by kernel_rfl) ?_
      | refine hb_load rfl rfl H rfl (k := 0) rfl Tryd.underlying3 rfl rfl ?_
      | refine hb_load rfl rfl H rfl (k := 0) rfl Tryd.underlying2 rfl rfl ?_)
   | ((with_reducible refine gate_box rfl ?_); refine hb_box rfl rfl H rfl ?_; intro gb W1 hgb H1; clear H; have H := H1; clear H1)
   | ((with_reducible refine gate_st rfl ?_); (refine hb_storeRow rfl rfl rfl H rfl (k := 0) rfl rfl (by kernel_rfl) rfl (by rfl) ?_); intro W1 H1; clear H; simp only [List.setIfInBounds_toArray, List.set_cons_zero, List.set_cons_succ] at H1; have H := H1; clear H1))
  rw [rounds_succ]
  go_wp2_with (first
   | ((with_reducible refine (P6.out _).mono ?_); rintro e w2 ⟨rfl, B2⟩; replace H := H.call B2; clear B2)
   | ((with_reducible refine (C27.out _).mono ?_); rintro e w2 ⟨rfl, B2⟩; replace H := H.call B2; clear B2)
   | ((with_reducible refine gate_load rfl ?_); first
      | refine hb_loadRow rfl rfl H rfl (k := 0) rfl Tryd.underlying32 rfl (by kernel_rfl) ?_
      | refine hb_load rfl rfl H rfl (k := 0) rfl Tryd.underlying3 rfl rfl ?_
      | refine hb_load rfl rfl H rfl (k := 0) rfl Tryd.underlying2 rfl rfl ?_)
   | ((with_reducible refine gate_box rfl ?_); refine hb_box rfl rfl H rfl ?_; intro gb W1 hgb H1; clear H; have H := H1; clear H1)
   | ((with_reducible refine gate_st rfl ?_); (refine hb_storeRow rfl rfl rfl H rfl (k := 0) rfl rfl (by kernel_rfl) rfl (by rfl) ?_); intro W1 H1; clear H; simp only [List.setIfInBounds_toArray, List.set_cons_zero, List.set_cons_succ] at H1; have H := H1; clear H1))
  rw [rounds_succ]
  go_wp2_with (first
   | ((with_reducible refine (P7.out _).mono ?_); rintro e w2 ⟨rfl, B2⟩; replace H := H.call B2; clear B2)
   | ((with_reducible refine (C27.out _).mono ?_); rintro e w2 ⟨rfl, B2⟩; replace H := H.call B2; clear B2)
   | ((with_reducible refine gate_load rfl ?_); first
      | refine hb_loadRow rfl rfl H rfl (k := 0) rfl Tryd.underlying32 rfl (by kernel_rfl) ?_
      | refine hb_load rfl rfl H rfl (k := 0) rfl Tryd.underlying3 rfl rfl ?_
      | refine hb_load rfl rfl H rfl (k := 0) rfl Tryd.underlying2 rfl rfl ?_)
   | ((with_reducible refine gate_box rfl ?_); refine hb_box rfl rfl H rfl ?_; intro gb W1 hgb H1; clear H; have H := H1; clear H1)
   | ((with_reducible refine gate_st rfl ?_); (refine hb_storeRow rfl rfl rfl H rfl (k := 0) rfl rfl (by kernel_rfl) rfl (by rfl) ?_); intro W1 H1; clear H; simp only [List.setIfInBounds_toArray, List.set_cons_zero, List.set_cons_succ] at H1; have H := H1; clear H1))
  rw [rounds_succ]
  go_wp2_with (first
   | ((with_reducible refine (P8.out _).mono ?_); rintro e w2 ⟨rfl, B2⟩; replace H := H.call B2; clear B2)
   | ((with_reducible refine (C27.out _).mono ?_); rintro e w2 ⟨rfl, B2⟩; replace H := H.call B2; clear B2)
   | ((with_reducible refine gate_load rfl ?_); first
      | refine hb_loadRow rfl rfl H rfl (k := 0) rfl Tryd.underlying32 rfl (by kernel_rfl) ?_
      | refine hb_load rfl rfl H rfl (k := 0) rfl Tryd.underlying3 rfl rfl ?_
      | refine hb_load rfl rfl H rfl (k := 0) rfl Tryd.underlying2 rfl rfl ?_)
   | ((with_reducible refine gate_box rfl ?_); refine hb_box rfl rfl H rfl ?_; intro gb W1 hgb H1; clear H; have H := H1; clear H1)
   | ((with_reducible refine gate_st rfl ?_); (refine hb_storeRow rfl rfl rfl H rfl (k := 0) rfl rfl (by kernel_rfl) rfl (by rfl) ?_); intro W1 H1; clear H; simp only [List.setIfInBounds_toArray, List.set_cons_zero, List.set_cons_succ] at H1; have H := H1; clear H1))
  rw [rounds_succ]
  go_wp2_with (first
   | ((with_reducible refine (P9.out _).mono ?_); rintro e w2 ⟨rfl, B2⟩; replace H := H.call B2; clear B2)
   | ((with_reducible refine (C27.out _).mono ?_); rintro e w2 ⟨rfl, B2⟩; replace H := H.call B2; clear B2)
   | ((with_reducible refine gate_load rfl ?_); first
      | refine hb_loadRow rfl rfl H rfl (k := 0) rfl Tryd.underlying32 rfl (by kernel_rfl) ?_
      | refine hb_load rfl rfl H rfl (k := 0) rfl Tryd.underlying3 rfl rfl ?_
      | refine hb_load rfl rfl H rfl (k := 0) rfl Tryd.underlying2 rfl rfl ?_)
   | ((with_reducible refine gate_box rfl ?_); refine hb_box rfl rfl H rfl ?_; intro gb W1 hgb H1; clear H; have H := H1; clear H1)
   | ((with_reducible refine gate_st rfl ?_); (refine hb_storeRow rfl rfl rfl H rfl (k := 0) rfl rfl (by kernel_rfl) rfl (by rfl) ?_); intro W1 H1; clear H; simp only [List.setIfInBounds_toArray, List.set_cons_zero, List.set_cons_succ] at H1; have H := H1; clear H1))
  rw [rounds_succ]
  go_wp2_with (first
   | ((with_reducible refine (P10.out _).mono ?_); rintro e w2 ⟨rfl, B2⟩; replace H := H.call B2; clear B2)
   | ((with_reducible refine (C27.out _).mono ?_); rintro e w2 ⟨rfl, B2⟩; replace H := H.call B2; clear B2)
   | ((with_reducible refine gate_load rfl ?_); first
      | refine hb_loadRow rfl rfl H rfl (k := 0) rfl Tryd.underlying32 rfl (by kernel_rfl) ?_
      | refine hb_load rfl rfl H rfl (k := 0) rfl Tryd.underlying3 rfl rfl ?_
      | refine hb_load rfl rfl H rfl (k := 0) rfl Tryd.underlying2 rfl rfl ?_)
   | ((with_reducible refine gate_box rfl ?_); refine hb_box rfl rfl H rfl ?_; intro gb W1 hgb H1; clear H; have H := H1; clear H1)
   | ((with_reducible refine gate_st rfl ?_); (refine hb_storeRow rfl rfl rfl H rfl (k := 0) rfl rfl (by kernel_rfl) rfl (by rfl) ?_); intro W1 H1; clear H; simp only [List.setIfInBounds_toArray, List.set_cons_zero, List.set_cons_succ] at H1; have H := H1; clear H1))
  rw [rounds_succ]
  go_wp2_with (first
   | ((with_reducible refine (P11.out _).mono ?_); rintro e w2 ⟨rfl, B2⟩; replace H := H.call B2; clear B2)
   | ((with_reducible refine (C27.out _).mono ?_); rintro e w2 ⟨rfl, B2⟩; replace H := H.call B2; clear B2)
   | ((with_reducible refine gate_load rfl ?_); first
      | refine hb_loadRow rfl rfl H rfl (k := 0) rfl Tryd.underlying32 rfl (by kernel_rfl) ?_
      | refine hb_load rfl rfl H rfl (k := 0) rfl Tryd.underlying3 rfl rfl ?_
      | refine hb_load rfl rfl H rfl (k := 0) rfl Tryd.underlying2 rfl rfl ?_)
   | ((with_reducible refine gate_box rfl ?_); refine hb_box rfl rfl H rfl ?_; intro gb W1 hgb H1; clear H; have H := H1; clear H1)
   | ((with_reducible refine gate_st rfl ?_); (refine hb_storeRow rfl rfl rfl H rfl (k := 0) rfl rfl (by kernel_rfl) rfl (by rfl) ?_); intro W1 H1; clear H; simp only [List.setIfInBounds_toArray, List.set_cons_zero, List.set_cons_succ] at H1; have H := H1; clear H1))
  rw [rounds_succ]
  go_wp2_with (first
   | ((with_reducible refine (C27.out _).mono ?_); rintro e w2 ⟨rfl, B2⟩; replace H := H.call B2; clear B2)
   | ((with_reducible refine gate_load rfl ?_); first
      | refine hb_loadRow rfl rfl H rfl (k := 0) rfl Tryd.underlying32 rfl (by kernel_rfl) ?_
      | refine hb_load rfl rfl H rfl (k := 0) rfl Tryd.underlying3 rfl rfl ?_
      | refine hb_load rfl rfl H rfl (k := 0) rfl Tryd.underlying2 rfl rfl ?_)
   | ((with_reducible refine gate_box rfl ?_); refine hb_box rfl rfl H rfl ?_; intro gb W1 hgb H1; clear H; have H := H1; clear H1)
   | ((with_reducible refine gate_st rfl ?_); (refine hb_storeRow rfl rfl rfl H rfl (k := 0) rfl rfl (by kernel_rfl) rfl (by rfl) ?_); intro W1 H1; clear H; simp only [List.setIfInBounds_toArray, List.set_cons_zero, List.set_cons_succ] at H1; have H := H1; clear H1))
  go_ret
  exact ⟨by rw [← HBB.out]; rfl, H.below⟩
end Go.Proofs.YtkkjjogbfjahgaaDoor.Sm
