/- A part of the proof of RollReads (Law): contracts and plain laws of the reading and laying of one roll. Conditions: those that each theorem states. -/
import Derived.Test.YtmdjhdnejmegfaaDoorCodReads
import Derived.Test.YtmdjhdnejmegfaaDoorPRollRx8
import Derived.Test.YtmdjhdnejmegfaaDoorPRollRx9
import Derived.Test.YtmdjhdnejmegfaaDoorPRollx3
import Derived.Test.YtmdjhdnejmegfaaDoorCodSame
set_option linter.unusedVariables false
set_option linter.unusedSimpArgs false
namespace Go.Proofs.YtmdjhdnejmegfaaDoor.LawWalk
open Go Go.Proofs Go.RowKit Go.Proofs.YtmdjhdnejmegfaaDoorW.PrintWords Go.Proofs.YtmdjhdnejmegfaaDoor.PRollR Go.Proofs.YtmdjhdnejmegfaaDoor.AsErr Go.Proofs.YtmdjhdnejmegfaaDoor.Cur Go.Proofs.YtmdjhdnejmegfaaDoor.RollRead Go.Proofs.YtmdjhdnejmegfaaDoor.RefRead
open Go.Proofs.YtmdjhdnejmegfaaDoorW.PrintLast Go.Proofs.YtmdjhdnejmegfaaDoorW.PrintMore

def rl.T5 : Bool × List (List Nat × List Nat) := (true, [([], []), ([], []), ([0, 1], [0, 1]), ([2], [2]), ([], []), ([4], [4]), ([], []), ([6, 2], [6]), ([5, 7, 7], [5, 7]), ([3, 8], [3, 8]), ([9, 8], [9]), ([10], [10]), ([10], [10]), ([11, 12, 10], [10, 11, 12]), ([10, 13], [10, 13]), ([14, 10], [14]), ([15], [15]), ([15], [15]), ([16, 17, 15], [15, 16, 17]), ([15, 18], [15, 18]), ([19, 15], [19]), ([20], [20]), ([20], [20]), ([21, 22, 20, 20], [20, 21, 22]), ([23, 20], [20, 23]), ([20, 24], [20, 24]), ([25, 23], [25]), ([26, 26], [26]), ([26, 27], [26, 27]), ([28, 27, 0, 1, 2, 3, 4, 5, 6, 7, 8, 9, 10, 11, 12, 13, 14, 15, 16, 17, 18, 19, 20, 21, 22, 23, 24, 25, 26, 27, 28], [28])])
def rl.B5 : List Nat := [0, 0, 3, 7, 0, 16, 0, 71, 247, 511, 1023, 2047, 2047, 8191, 16383, 32767, 65535, 65535, 262143, 524287, 1048575, 2097151, 2097151, 8388607, 16777215, 33554431, 67108863, 134217727, 268435455, 536870911]
theorem rl.tab5 : rtab .any (opsOf Tryd.f4 5) = rl.T5 := by kernel_rfl
theorem rl.bits5 : waitsOk rl.T5.2 rl.B5 = true := by kernel_rfl
/-- What ref.Read comes to, in letters. -/
theorem ref_read' (k : Nat) (b : ByteArray) (s1 s2 s3 s4 : ByteArray) (e1 e2 e3 e4 v1 v2 v3 v4 : Int) (w : World)
    (l3 l4 : List Int) (hl3 : berthingref07_Of.f k (IntKind.u64.wrap v3) = some l3) (hl4 : berthingref07_Of.f k (IntKind.u64.wrap v4) = some l4)
    (h1 : berthingref02_Cursor_Int.f k b 0 = some (s1, e1, v1)) (h2 : berthingref02_Cursor_Int.f k s1 e1 = some (s2, e2, v2))
    (h3 : berthingref02_Cursor_Int.f k s2 e2 = some (s3, e3, v3)) (h4 : berthingref02_Cursor_Int.f k s3 e3 = some (s4, e4, v4))
    (okr : Bool) (hrr : berthingref21_Roll_Right.f k v1 v2 l3 l4 64 = some okr) (y0 y1 n e : Int) (Y2 Y3 : List Int)
    (hy : (if e4 = 0 ∧ okr = true then (v1, v2, l3, l4, IntKind.i64.wrap ((b.size : Int) - (s4.size : Int)), 0) else (0, 0, [], [], 0, 11)) = (y0, y1, Y2, Y3, n, e)) :
    Calls Tryd.prog 17 #[.string b] w fun ev w' => ∃ v2_ v3_ : Value, ev = .returned (.tuple #[.agg #[.int .i64 y0, .int .i64 y1, v2_, v3_], .int .i64 n, .int .i64 e]) ∧
      Kd.R (Kd.int .i64) 3 w' w.heap.size (fun k_ => some k_ ≠ (v3_ : Value).ownBlock) v2_ Y2 ∧ Kd.R (Kd.int .i64) 3 w' w.heap.size (fun k_ => some k_ ≠ (v2_ : Value).ownBlock) v3_ Y3 ∧ Below w.heap.size w w' := by
  refine (ref_read k b s1 s2 s3 s4 e1 e2 e3 e4 v1 v2 v3 v4 w l3 l4 hl3 hl4 h1 h2 h3 h4 okr hrr).mono ?_
  rintro ev w' h
  unfold Res at h
  by_cases hc : e4 = 0 ∧ okr = true
  · simp only [if_pos hc] at h hy
    simp only [Prod.mk.injEq] at hy
    obtain ⟨rfl, rfl, rfl, rfl, rfl, rfl⟩ := hy
    exact h
  · simp only [if_neg hc] at h hy
    simp only [Prod.mk.injEq] at hy
    obtain ⟨rfl, rfl, rfl, rfl, rfl, rfl⟩ := hy
    exact h

set_option maxRecDepth 100000 in
set_option maxHeartbeats 16000000 in
theorem reads_long (a b c d : Int) (A0 : Option Addr) (c0 : Nat) (bs : List Int) (w : World) (hl : 500 < bs.length) (hm : bs.length ≤ 9223372036854775807) :
    Calls Tryd.prog 4 #[.agg #[.int .i64 a, .int .i64 b, .int .u64 c, .int .u64 d], .slice A0 bs.length c0] w fun ev w' => ev = .returned (.bool true) ∧ Below w.heap.size w w' := by
  have e1 : decide (500 < (bs.length : Int)) = true := by simp; omega
  go_enter Tryd.func4, Tryd.ntmps4
  go_wp2
  go_ret
  exact ⟨rfl, (Below.refl _ w).alloc (Nat.le_refl _) _⟩

set_option maxRecDepth 100000 in
set_option maxHeartbeats 16000000 in
theorem reads_walk (k kR : Nat) (a b c d : Int) (A0 : Option Addr) (c0 : Nat) (bs : List Int) (w : World) (hC : Kd.C (Kd.int .u8) w A0 bs.length bs) (hc0 : bs.length ≤ c0) (hb : ∀ x ∈ bs, 0 ≤ x ∧ x < 256) (hE : ErrT w) (hT : RollNext.Tab w) (hl : bs.length ≤ 500)
    (rr : Bool) (hrr : PRollEnds.roll_Roll_Right.f kR (four bs).1.1 (four bs).1.2.1 (IntKind.u64.wrap (four bs).1.2.2.1) (IntKind.u64.wrap (four bs).1.2.2.2) 64 = some rr)
    (x0 x1 x2 x3 n e : Int)
    (hres : (if (four bs).2.2 = 0 ∧ rr = true then
        Value.tuple #[.agg #[.int .i64 (four bs).1.1, .int .i64 (four bs).1.2.1, .int .u64 (IntKind.u64.wrap (four bs).1.2.2.1), .int .u64 (IntKind.u64.wrap (four bs).1.2.2.2)], .int .i64 (IntKind.i64.wrap ((bs.length : Int) - ((four bs).2.1.length : Int))), .int .i64 0]
      else .tuple #[.agg #[.int .i64 0, .int .i64 0, .int .u64 0, .int .u64 0], .int .i64 0, .int .i64 11]) = .tuple #[.agg #[.int .i64 x0, .int .i64 x1, .int .u64 x2, .int .u64 x3], .int .i64 n, .int .i64 e])
    (B s1 s2 s3 s4 : ByteArray) (hB : strOfNums bs = B) (e1 e2 e3 e4 v1 v2 v3 v4 : Int)
    (l3 l4 : List Int) (hl3 : berthingref07_Of.f k (IntKind.u64.wrap v3) = some l3) (hl4 : berthingref07_Of.f k (IntKind.u64.wrap v4) = some l4)
    (h1 : berthingref02_Cursor_Int.f k B 0 = some (s1, e1, v1)) (h2 : berthingref02_Cursor_Int.f k s1 e1 = some (s2, e2, v2))
    (h3 : berthingref02_Cursor_Int.f k s2 e2 = some (s3, e3, v3)) (h4 : berthingref02_Cursor_Int.f k s3 e3 = some (s4, e4, v4))
    (okr : Bool) (hyr : berthingref21_Roll_Right.f k v1 v2 l3 l4 64 = some okr) (y0 y1 : Int) (Y2 Y3 : List Int)
    (hy : (if e4 = 0 ∧ okr = true then (v1, v2, l3, l4, IntKind.i64.wrap ((B.size : Int) - (s4.size : Int)), 0) else (0, 0, [], [], 0, 11)) = (y0, y1, Y2, Y3, n, e))
    (r1 r2 r3 r4 : List Int) (p1 : coding_PutInt.f k bs a = some r1) (p2 : coding_PutInt.f k r1 b = some r2) (p3 : coding_PutInt.f k r2 (wrap64 c) = some r3) (p4 : coding_PutInt.f k r3 (wrap64 d) = some r4)
    (L3 L4 : List Int) (ho : berthinglaw21_Own.f k a b c d = some (a, b, L3, L4)) (S : ByteArray) (hS : strOfNums r4 = S) (hp : berthingref21_Put.f k B a b L3 L4 = some S)
    (hk : berthinglaw21_Like.f k x0 x1 x2 x3 y0 y1 Y2 Y3 = some 1) (hone : PRoll.berthinglaw21_one.f k = some true) :
    Calls Tryd.prog 4 #[.agg #[.int .i64 a, .int .i64 b, .int .u64 c, .int .u64 d], .slice A0 bs.length c0] w fun ev w' => ev = .returned (.bool true) ∧ Below w.heap.size w w' := by
  have hu37 := Tryd.underlying37
  have hu27 := Tryd.underlying27
  have hu44 := Tryd.underlying44
  have q1 : decide (500 < (bs.length : Int)) = false := by simp; omega
  have hC1 : Kd.C (Kd.int .u8) (w.alloc (.cells #[.int .i64 a, .int .i64 b, .int .u64 c, .int .u64 d] 27)) A0 bs.length bs := Kd.C_below hC ((Below.refl _ w).alloc (Nat.le_refl _) _)
  have hw0 : 0 < w.heap.size := by
    rcases Nat.eq_zero_or_pos w.heap.size with h | h
    · simp [ErrT, World.cell?, h] at hE
    · exact h
  have errOf : ∀ {W : World}, Below w.heap.size w W → ErrT W := fun hb_ => (hb_.cell (p := ⟨0, 0, none⟩) hw0).trans hE
  have bk0 := blk_new w (.cells #[.int .i64 a, .int .i64 b, .int .u64 c, .int .u64 d] 27)
  have B0 : Below w.heap.size w (w.alloc (.cells #[.int .i64 a, .int .i64 b, .int .u64 c, .int .u64 d] 27)) := (Below.refl _ w).alloc (Nat.le_refl _) _
  go_enter Tryd.func4, Tryd.ntmps4
  go_wp2_with (first
    | (go_at_call 16; refine (read_good rr kR A0 c0 bs _ hC1 hc0 (by omega) hb (errOf B0) hrr _ hres).mono ?_; rintro ev wa ⟨rfl, hba⟩
       have bk1 := blk_below bk0 hba
       have B1 := below_step B0 hba
       have C1 := Kd.C_below hC1 hba
       have bx1 := blk_new wa (.cells #[.int .i64 x0, .int .i64 x1, .int .u64 x2, .int .u64 x3] 27)
       have bk2 := blk_alloc bk1 (.cells #[.int .i64 x0, .int .i64 x1, .int .u64 x2, .int .u64 x3] 27)
       have B2 := B1.alloc B1.size (.cells #[.int .i64 x0, .int .i64 x1, .int .u64 x2, .int .u64 x3] 27)
       have C2 := Kd.C_below C1 ((Below.refl _ wa).alloc (Nat.le_refl _) (.cells #[.int .i64 x0, .int .i64 x1, .int .u64 x2, .int .u64 x3] 27))
       have hcv := Kd.C_string (P := Tryd.prog) (src := 37) (dst := 9) (e := 5) (c := c0) Tryd.underlying37 Tryd.underlying5 Tryd.underlying9 C2
       rw [hB] at hcv)
    | (go_at_call 17; refine (ref_read' k B s1 s2 s3 s4 e1 e2 e3 e4 v1 v2 v3 v4 _ l3 l4 hl3 hl4 h1 h2 h3 h4 okr hyr y0 y1 n e Y2 Y3 hy).mono ?_; rintro ev wb ⟨v2_, v3_, rfl, R2, R3, hbb⟩
       obtain ⟨A2, c2, rfl, le2, D2⟩ := Kd.R_reads R2
       obtain ⟨A3, c3, rfl, le3, D3⟩ := Kd.R_reads R3
       have bk3 := blk_below bk2 hbb
       have bx3 := blk_below bx1 hbb
       have B3 := below_step B2 hbb
       have C3 := Kd.C_below C2 hbb))
  have by4 := blk_new wb (.cells #[.int .i64 y0, .int .i64 y1, .slice A2 Y2.length c2, .slice A3 Y3.length c3] 44)
  have bk4 := blk_alloc bk3 (.cells #[.int .i64 y0, .int .i64 y1, .slice A2 Y2.length c2, .slice A3 Y3.length c3] 44)
  have bx4 := blk_alloc bx3 (.cells #[.int .i64 y0, .int .i64 y1, .slice A2 Y2.length c2, .slice A3 Y3.length c3] 44)
  have U4 := (Below.refl wb.heap.size wb).alloc (Nat.le_refl _) (.cells #[.int .i64 y0, .int .i64 y1, .slice A2 Y2.length c2, .slice A3 Y3.length c3] 44)
  have B4 := below_step B3 U4
  have C4 := Kd.C_below C3 U4
  have D2' := Kd.C_below D2 U4
  have D3' := Kd.C_below D3 U4
  clear U4 hcv B3 B2 B1 B0 bk3 bk2 bk1 bk0 bx3 bx1 C3 C2 C1 hC1 R2 R3 D2 D3 hbb hba
  generalize wb.alloc (.cells #[.int .i64 y0, .int .i64 y1, .slice A2 Y2.length c2, .slice A3 Y3.length c3] 44) = W3 at by4 bk4 bx4 B4 C4 D2' D3' ⊢
  refine start_ (n := 30) (S := fun w' => Below W3.heap.size W3 w') (ds := []) #[false, false, false, false, false, false, false, false, false, false, false, false, false, false, false, false, false, false, false, false, false, false, false, false, false, false, false, false, false, false] (by kernel_rfl) rfl rfl (below_drew1 (Below.refl _ W3)) (fun hHeld => ?_); refine with_tabW rl.tab5 rl.bits5 (fun HT_ HW_ => ?_)
  refine pure_ (i := 0) (N := some 27) (v := ?_) (a' := ?_) #[true, false, false, false, false, false, false, false, false, false, false, false, false, false, false, false, false, false, false, false, false, false, false, false, false, false, false, false, false, false] rfl rfl (any_of HT_.out (by kernel_rfl)) (fun _ _ _ h => h) (Or.inl ⟨by rfl, ?_⟩) ?_ ?_
  rotate_left
  · intro w'
    go_simp
    with_reducible rfl
  rotate_left
  · simp only [Act.put, List.setIfInBounds_toArray, List.set_cons_zero, List.set_cons_succ, i64_w, i32_w]
    rfl
  refine pure_ (i := 4) (N := some 31) (v := ?_) (a' := ?_) #[true, false, false, false, true, false, false, false, false, false, false, false, false, false, false, false, false, false, false, false, false, false, false, false, false, false, false, false, false, false] rfl rfl (any_of HT_.out (by kernel_rfl)) (fun _ _ _ h => h) (Or.inl ⟨by rfl, ?_⟩) ?_ ?_
  rotate_left
  · intro w'
    go_simp
    with_reducible rfl
  rotate_left
  · simp only [Act.put, List.setIfInBounds_toArray, List.set_cons_zero, List.set_cons_succ, i64_w, i32_w]
    rfl
  refine take_ (i := 1) (N := some 28) (v := ?_) (a' := ?_) #[true, true, false, false, true, false, false, false, false, false, false, false, false, false, false, false, false, false, false, false, false, false, false, false, false, false, false, false, false, false] rfl rfl (take_ofW HT_.out HW_.out (by kernel_rfl)) (fun _ _ _ h => h) (Or.inl ⟨by rfl, ?_⟩) hHeld ?_ ?_
  rotate_left
  · rintro w' s0
    have g0 : w'.cell? ⟨w.heap.size, 0, none⟩ = some (.int .i64 a) := (blk_cell (blk_below bk4 s0) 0).trans rfl
    have g1 : w'.cell? ⟨w.heap.size, 1, none⟩ = some (.int .i64 b) := (blk_cell (blk_below bk4 s0) 1).trans rfl
    have g2 : w'.cell? ⟨w.heap.size, 2, none⟩ = some (.int .u64 c) := (blk_cell (blk_below bk4 s0) 2).trans rfl
    have g3 : w'.cell? ⟨w.heap.size, 3, none⟩ = some (.int .u64 d) := (blk_cell (blk_below bk4 s0) 3).trans rfl
    go_simp
    with_reducible rfl
  rotate_left
  · simp only [Act.put, List.setIfInBounds_toArray, List.set_cons_zero, List.set_cons_succ, i64_w, i32_w]
    rfl
  refine take_ (i := 5) (N := some 32) (v := ?_) (a' := ?_) #[true, true, false, false, true, true, false, false, false, false, false, false, false, false, false, false, false, false, false, false, false, false, false, false, false, false, false, false, false, false] rfl rfl (take_ofW HT_.out HW_.out (by kernel_rfl)) (fun _ _ _ h => h) (Or.inl ⟨by rfl, ?_⟩) hHeld ?_ ?_
  rotate_left
  · rintro w' s0
    have hcv' := Kd.C_string (P := Tryd.prog) (src := 37) (dst := 9) (e := 5) (c := c0) Tryd.underlying37 Tryd.underlying5 Tryd.underlying9 (Kd.C_below C4 s0)
    rw [hB] at hcv'
    go_simp
    with_reducible rfl
  rotate_left
  · simp only [Act.put, List.setIfInBounds_toArray, List.set_cons_zero, List.set_cons_succ, i64_w, i32_w]
    rfl
  refine take_ (i := 6) (N := some 33) (v := ?_) (a' := ?_) #[true, true, false, false, true, true, true, false, false, false, false, false, false, false, false, false, false, false, false, false, false, false, false, false, false, false, false, false, false, false] rfl rfl (take_ofW HT_.out HW_.out (by kernel_rfl)) (fun _ _ _ h => h) (Or.inl ⟨by rfl, ?_⟩) hHeld ?_ ?_
  rotate_left
  · rintro w' s0
    have g0 : w'.cell? ⟨w.heap.size, 0, none⟩ = some (.int .i64 a) := (blk_cell (blk_below bk4 s0) 0).trans rfl
    have g1 : w'.cell? ⟨w.heap.size, 1, none⟩ = some (.int .i64 b) := (blk_cell (blk_below bk4 s0) 1).trans rfl
    have g2 : w'.cell? ⟨w.heap.size, 2, none⟩ = some (.int .u64 c) := (blk_cell (blk_below bk4 s0) 2).trans rfl
    have g3 : w'.cell? ⟨w.heap.size, 3, none⟩ = some (.int .u64 d) := (blk_cell (blk_below bk4 s0) 3).trans rfl
    go_simp
    with_reducible rfl
  rotate_left
  · simp only [Act.put, List.setIfInBounds_toArray, List.set_cons_zero, List.set_cons_succ, i64_w, i32_w]
    rfl
  refine one_ (i := 2) (N := some 29) #[true, true, true, false, true, true, true, false, false, false, false, false, false, false, false, false, false, false, false, false, false, false, false, false, false, false, false, false, false, false] rfl rfl (one_of HT_.out (by kernel_rfl)) (by decide) (fun K hK => ?_)
  refine goes_ Tryd.func18 (by kernel_rfl) rfl #[.slice A0 bs.length c0, .agg #[.int .i64 a, .int .i64 b, .int .u64 c, .int .u64 d]] (by rfl) rfl rfl (by (try simp only [List.map_toArray, List.map_cons, List.map_nil]); first | done | rfl | (simp only [List.length_drop, List.length_take]; rfl)) ?_
  with_reducible refine (RollPut.put_calls k A0 c0 bs a b c d r1 r2 r3 r4 _ (Kd.C_below C4 hHeld) hc0 p1 p2 p3 p4).mono ?_
  rintro e w5 ⟨v5, rfl, R5, hb5⟩
  obtain ⟨A5, c5, rfl, le5, C5⟩ := Kd.R_reads R5
  refine ⟨_, rfl, ?_⟩
  refine hK.out _ _ (below_step hHeld hb5) (fun hHeld => ?_)
  clear hK K
  refine norm_ (a' := ?_) ?_ ?_
  rotate_left
  · show Act.put _ (some 29) _ = _
    simp only [Act.put, List.setIfInBounds_toArray, List.set_cons_zero, List.set_cons_succ, i64_w, i32_w]
    rfl
  refine two_ (i := 3) (j := 7) (Ni := some 30) (Nj := some 34) #[true, true, true, true, true, true, true, false, false, false, false, false, false, false, false, false, false, false, false, false, false, false, false, false, false, false, false, false, false, false] #[true, true, true, false, true, true, true, true, false, false, false, false, false, false, false, false, false, false, false, false, false, false, false, false, false, false, false, false, false, false] rfl rfl rfl rfl (two_of HT_.out (by kernel_rfl)) (by decide) (by decide) (fun K hK => ?_) (fun K hK => ?_)
  · skip
    have hcw := Kd.C_string (P := Tryd.prog) (w := w5) (src := 37) (dst := 9) (e := 5) (c := c5) Tryd.underlying37 Tryd.underlying5 Tryd.underlying9 (C5)
    rw [hS] at hcw
    refine value_ rfl rfl (by go_simp; exact ⟨rfl, rfl⟩) ?_
    refine hK.out _ _ (hHeld) (fun hHeld => ?_)
    clear hK K
    refine norm_ (a' := ?_) ?_ ?_
    rotate_left
    · show Act.put _ (some 30) _ = _
      simp only [Act.put, List.setIfInBounds_toArray, List.set_cons_zero, List.set_cons_succ, i64_w, i32_w]
      rfl
    refine one_ (i := 7) (N := some 34) #[true, true, true, true, true, true, true, true, false, false, false, false, false, false, false, false, false, false, false, false, false, false, false, false, false, false, false, false, false, false] rfl rfl (one_of HT_.out (by kernel_rfl)) (by decide) (fun K hK => ?_)
    refine goes_ Tryd.func20 (by kernel_rfl) rfl #[.agg #[.int .i64 a, .int .i64 b, .int .u64 c, .int .u64 d]] (by rfl) rfl rfl (by (try simp only [List.map_toArray, List.map_cons, List.map_nil]); first | done | rfl | (simp only [List.length_drop, List.length_take]; rfl)) ?_
    with_reducible refine (berthinglaw21_Own.calls k a b c d a b L3 L4 _ ho).mono ?_
    rintro e w6 ⟨v6, v7, rfl, R6, R7, hb6⟩
    obtain ⟨A6, c6, rfl, le6, C6⟩ := Kd.R_reads R6
    obtain ⟨A7, c7, rfl, le7, C7⟩ := Kd.R_reads R7
    refine ⟨_, rfl, ?_⟩
    refine hK.out _ _ (below_step hHeld hb6) (fun hHeld => ?_)
    clear hK K
    refine norm_ (a' := ?_) ?_ ?_
    rotate_left
    · show Act.put _ (some 34) _ = _
      simp only [Act.put, List.setIfInBounds_toArray, List.set_cons_zero, List.set_cons_succ, i64_w, i32_w]
      rfl
    refine one_ (i := 8) (N := some 35) #[true, true, true, true, true, true, true, true, true, false, false, false, false, false, false, false, false, false, false, false, false, false, false, false, false, false, false, false, false, false] rfl rfl (one_of HT_.out (by kernel_rfl)) (by decide) (fun K hK => ?_)
    refine goes_ Tryd.func19 (by kernel_rfl) rfl #[.string B, .agg #[.int .i64 a, .int .i64 b, .slice A6 L3.length c6, .slice A7 L4.length c7]] (by rfl) rfl rfl (by (try simp only [List.map_toArray, List.map_cons, List.map_nil]); first | done | rfl | (simp only [List.length_drop, List.length_take]; rfl)) ?_
    with_reducible refine (berthingref21_Put.calls k B a b A6 c6 L3 A7 c7 L4 S _ C6 le6 C7 le7 hp).mono ?_
    rintro e w7 ⟨rfl, hb7⟩
    refine ⟨_, rfl, ?_⟩
    refine hK.out _ _ (below_step hHeld hb7) (fun hHeld => ?_)
    clear hK K
    refine norm_ (a' := ?_) ?_ ?_
    rotate_left
    · show Act.put _ (some 35) _ = _
      simp only [Act.put, List.setIfInBounds_toArray, List.set_cons_zero, List.set_cons_succ, i64_w, i32_w]
      rfl
    refine pure_ (i := 9) (N := some 36) (v := ?_) (a' := ?_) #[true, true, true, true, true, true, true, true, true, true, false, false, false, false, false, false, false, false, false, false, false, false, false, false, false, false, false, false, false, false] rfl rfl (any_of HT_.out (by kernel_rfl)) (fun _ _ _ h => h) (Or.inl ⟨by rfl, ?_⟩) ?_ ?_
    rotate_left
    · intro w'
      go_simp
      with_reducible rfl
    rotate_left
    · simp only [Act.put, List.setIfInBounds_toArray, List.set_cons_zero, List.set_cons_succ, i64_w, i32_w]
      rfl
    refine pure_ (i := 10) (N := some 37) (v := ?_) (a' := ?_) #[true, true, true, true, true, true, true, true, true, true, true, false, false, false, false, false, false, false, false, false, false, false, false, false, false, false, false, false, false, false] rfl rfl (any_of HT_.out (by kernel_rfl)) (fun _ _ _ h => h) (Or.inl ⟨by rfl, ?_⟩) ?_ ?_
    rotate_left
    · intro w'
      go_simp
      with_reducible rfl
    rotate_left
    · simp only [Act.put, List.setIfInBounds_toArray, List.set_cons_zero, List.set_cons_succ, i64_w, i32_w]
      rfl
    refine pure_ (i := 11) (N := some 38) (v := ?_) (a' := ?_) #[true, true, true, true, true, true, true, true, true, true, true, true, false, false, false, false, false, false, false, false, false, false, false, false, false, false, false, false, false, false] rfl rfl (any_of HT_.out (by kernel_rfl)) (fun _ _ _ h => h) (Or.inl ⟨by rfl, ?_⟩) ?_ ?_
    rotate_left
    · intro w'
      go_simp
      with_reducible rfl
    rotate_left
    · simp only [Act.put, List.setIfInBounds_toArray, List.set_cons_zero, List.set_cons_succ, i64_w, i32_w]
      rfl
    refine pure_ (i := 12) (N := some 39) (v := ?_) (a' := ?_) #[true, true, true, true, true, true, true, true, true, true, true, true, true, false, false, false, false, false, false, false, false, false, false, false, false, false, false, false, false, false] rfl rfl (any_of HT_.out (by kernel_rfl)) (fun _ _ _ h => h) (Or.inl ⟨by rfl, ?_⟩) ?_ ?_
    rotate_left
    · intro w'
      go_simp
      with_reducible rfl
    rotate_left
    · simp only [Act.put, List.setIfInBounds_toArray, List.set_cons_zero, List.set_cons_succ, i64_w, i32_w]
      rfl
    refine pure_ (i := 13) (N := some 40) (v := ?_) (a' := ?_) #[true, true, true, true, true, true, true, true, true, true, true, true, true, true, false, false, false, false, false, false, false, false, false, false, false, false, false, false, false, false] rfl rfl (any_of HT_.out (by kernel_rfl)) (fun _ _ _ h => h) (Or.inl ⟨by rfl, ?_⟩) ?_ ?_
    rotate_left
    · intro w'
      go_simp
      with_reducible rfl
    rotate_left
    · simp only [Act.put, List.setIfInBounds_toArray, List.set_cons_zero, List.set_cons_succ, i64_w, i32_w]
      rfl
    refine pure_ (i := 14) (N := some 41) (v := ?_) (a' := ?_) #[true, true, true, true, true, true, true, true, true, true, true, true, true, true, true, false, false, false, false, false, false, false, false, false, false, false, false, false, false, false] rfl rfl (any_of HT_.out (by kernel_rfl)) (fun _ _ _ h => h) (Or.inl ⟨by rfl, ?_⟩) ?_ ?_
    rotate_left
    · intro w'
      go_simp
      with_reducible rfl
    rotate_left
    · simp only [Act.put, List.setIfInBounds_toArray, List.set_cons_zero, List.set_cons_succ, i64_w, i32_w]
      rfl
    refine pure_ (i := 15) (N := some 42) (v := ?_) (a' := ?_) #[true, true, true, true, true, true, true, true, true, true, true, true, true, true, true, true, false, false, false, false, false, false, false, false, false, false, false, false, false, false] rfl rfl (any_of HT_.out (by kernel_rfl)) (fun _ _ _ h => h) (Or.inl ⟨by rfl, ?_⟩) ?_ ?_
    rotate_left
    · intro w'
      go_simp
      with_reducible rfl
    rotate_left
    · simp only [Act.put, List.setIfInBounds_toArray, List.set_cons_zero, List.set_cons_succ, i64_w, i32_w]
      rfl
    refine pure_ (i := 16) (N := some 43) (v := ?_) (a' := ?_) #[true, true, true, true, true, true, true, true, true, true, true, true, true, true, true, true, true, false, false, false, false, false, false, false, false, false, false, false, false, false] rfl rfl (any_of HT_.out (by kernel_rfl)) (fun _ _ _ h => h) (Or.inl ⟨by rfl, ?_⟩) ?_ ?_
    rotate_left
    · intro w'
      go_simp
      with_reducible rfl
    rotate_left
    · simp only [Act.put, List.setIfInBounds_toArray, List.set_cons_zero, List.set_cons_succ, i64_w, i32_w]
      rfl
    refine pure_ (i := 17) (N := some 44) (v := ?_) (a' := ?_) #[true, true, true, true, true, true, true, true, true, true, true, true, true, true, true, true, true, true, false, false, false, false, false, false, false, false, false, false, false, false] rfl rfl (any_of HT_.out (by kernel_rfl)) (fun _ _ _ h => h) (Or.inl ⟨by rfl, ?_⟩) ?_ ?_
    rotate_left
    · intro w'
      go_simp
      with_reducible rfl
    rotate_left
    · simp only [Act.put, List.setIfInBounds_toArray, List.set_cons_zero, List.set_cons_succ, i64_w, i32_w]
      rfl
    refine pure_ (i := 18) (N := some 45) (v := ?_) (a' := ?_) #[true, true, true, true, true, true, true, true, true, true, true, true, true, true, true, true, true, true, true, false, false, false, false, false, false, false, false, false, false, false] rfl rfl (any_of HT_.out (by kernel_rfl)) (fun _ _ _ h => h) (Or.inl ⟨by rfl, ?_⟩) ?_ ?_
    rotate_left
    · intro w'
      go_simp
      with_reducible rfl
    rotate_left
    · simp only [Act.put, List.setIfInBounds_toArray, List.set_cons_zero, List.set_cons_succ, i64_w, i32_w]
      rfl
    refine pure_ (i := 19) (N := some 46) (v := ?_) (a' := ?_) #[true, true, true, true, true, true, true, true, true, true, true, true, true, true, true, true, true, true, true, true, false, false, false, false, false, false, false, false, false, false] rfl rfl (any_of HT_.out (by kernel_rfl)) (fun _ _ _ h => h) (Or.inl ⟨by rfl, ?_⟩) ?_ ?_
    rotate_left
    · intro w'
      go_simp
      with_reducible rfl
    rotate_left
    · simp only [Act.put, List.setIfInBounds_toArray, List.set_cons_zero, List.set_cons_succ, i64_w, i32_w]
      rfl
    refine pure_ (i := 20) (N := some 47) (v := ?_) (a' := ?_) #[true, true, true, true, true, true, true, true, true, true, true, true, true, true, true, true, true, true, true, true, true, false, false, false, false, false, false, false, false, false] rfl rfl (any_of HT_.out (by kernel_rfl)) (fun _ _ _ h => h) (Or.inl ⟨by rfl, ?_⟩) ?_ ?_
    rotate_left
    · intro w'
      go_simp
      with_reducible rfl
    rotate_left
    · simp only [Act.put, List.setIfInBounds_toArray, List.set_cons_zero, List.set_cons_succ, i64_w, i32_w]
      rfl
    refine take_ (i := 21) (N := some 48) (v := ?_) (a' := ?_) #[true, true, true, true, true, true, true, true, true, true, true, true, true, true, true, true, true, true, true, true, true, true, false, false, false, false, false, false, false, false] rfl rfl (take_ofW HT_.out HW_.out (by kernel_rfl)) (fun _ _ _ h => h) (Or.inl ⟨by rfl, ?_⟩) hHeld ?_ ?_
    rotate_left
    · rintro w' s0
      have g0 : w'.cell? ⟨wa.heap.size, 0, none⟩ = some (.int .i64 x0) := (blk_cell (blk_below bx4 s0) 0).trans rfl
      have g1 : w'.cell? ⟨wa.heap.size, 1, none⟩ = some (.int .i64 x1) := (blk_cell (blk_below bx4 s0) 1).trans rfl
      have g2 : w'.cell? ⟨wa.heap.size, 2, none⟩ = some (.int .u64 x2) := (blk_cell (blk_below bx4 s0) 2).trans rfl
      have g3 : w'.cell? ⟨wa.heap.size, 3, none⟩ = some (.int .u64 x3) := (blk_cell (blk_below bx4 s0) 3).trans rfl
      go_simp
      with_reducible rfl
    rotate_left
    · simp only [Act.put, List.setIfInBounds_toArray, List.set_cons_zero, List.set_cons_succ, i64_w, i32_w]
      rfl
    refine take_ (i := 22) (N := some 49) (v := ?_) (a' := ?_) #[true, true, true, true, true, true, true, true, true, true, true, true, true, true, true, true, true, true, true, true, true, true, true, false, false, false, false, false, false, false] rfl rfl (take_ofW HT_.out HW_.out (by kernel_rfl)) (fun _ _ _ h => h) (Or.inl ⟨by rfl, ?_⟩) hHeld ?_ ?_
    rotate_left
    · rintro w' s0
      have g0 : w'.cell? ⟨wb.heap.size, 0, none⟩ = some (.int .i64 y0) := (blk_cell (blk_below by4 s0) 0).trans rfl
      have g1 : w'.cell? ⟨wb.heap.size, 1, none⟩ = some (.int .i64 y1) := (blk_cell (blk_below by4 s0) 1).trans rfl
      have g2 : w'.cell? ⟨wb.heap.size, 2, none⟩ = some (.slice A2 Y2.length c2) := (blk_cell (blk_below by4 s0) 2).trans rfl
      have g3 : w'.cell? ⟨wb.heap.size, 3, none⟩ = some (.slice A3 Y3.length c3) := (blk_cell (blk_below by4 s0) 3).trans rfl
      go_simp
      with_reducible rfl
    rotate_left
    · simp only [Act.put, List.setIfInBounds_toArray, List.set_cons_zero, List.set_cons_succ, i64_w, i32_w]
      rfl
    refine one_ (i := 23) (N := some 50) #[true, true, true, true, true, true, true, true, true, true, true, true, true, true, true, true, true, true, true, true, true, true, true, true, false, false, false, false, false, false] rfl rfl (one_of HT_.out (by kernel_rfl)) (by decide) (fun K hK => ?_)
    refine goes_ Tryd.func21 (by kernel_rfl) rfl #[.agg #[.int .i64 x0, .int .i64 x1, .int .u64 x2, .int .u64 x3], .agg #[.int .i64 y0, .int .i64 y1, .slice A2 Y2.length c2, .slice A3 Y3.length c3]] (by rfl) rfl rfl (by (try simp only [List.map_toArray, List.map_cons, List.map_nil]); first | done | rfl | (simp only [List.length_drop, List.length_take]; rfl)) ?_
    with_reducible refine (berthinglaw21_Like.calls k x0 x1 x2 x3 y0 y1 A2 c2 Y2 A3 c3 Y3 1 _ (Kd.C_below D2' hHeld) le2 (Kd.C_below D3' hHeld) le3 hk).mono ?_
    rintro e w8 ⟨rfl, hb8⟩
    refine ⟨_, rfl, ?_⟩
    refine hK.out _ _ (below_step hHeld hb8) (fun hHeld => ?_)
    clear hK K
    refine norm_ (a' := ?_) ?_ ?_
    rotate_left
    · show Act.put _ (some 50) _ = _
      simp only [Act.put, List.setIfInBounds_toArray, List.set_cons_zero, List.set_cons_succ, i64_w, i32_w]
      rfl
    refine pure_ (i := 24) (N := some 51) (v := ?_) (a' := ?_) #[true, true, true, true, true, true, true, true, true, true, true, true, true, true, true, true, true, true, true, true, true, true, true, true, true, false, false, false, false, false] rfl rfl (any_of HT_.out (by kernel_rfl)) (fun _ _ _ h => h) (Or.inl ⟨by rfl, ?_⟩) ?_ ?_
    rotate_left
    · intro w'
      go_simp
      with_reducible rfl
    rotate_left
    · simp only [Act.put, List.setIfInBounds_toArray, List.set_cons_zero, List.set_cons_succ, i64_w, i32_w]
      rfl
    refine pure_ (i := 25) (N := some 52) (v := ?_) (a' := ?_) #[true, true, true, true, true, true, true, true, true, true, true, true, true, true, true, true, true, true, true, true, true, true, true, true, true, true, false, false, false, false] rfl rfl (any_of HT_.out (by kernel_rfl)) (fun _ _ _ h => h) (Or.inl ⟨by rfl, ?_⟩) ?_ ?_
    rotate_left
    · intro w'
      go_simp
      with_reducible rfl
    rotate_left
    · simp only [Act.put, List.setIfInBounds_toArray, List.set_cons_zero, List.set_cons_succ, i64_w, i32_w]
      rfl
    refine pure_ (i := 26) (N := some 53) (v := ?_) (a' := ?_) #[true, true, true, true, true, true, true, true, true, true, true, true, true, true, true, true, true, true, true, true, true, true, true, true, true, true, true, false, false, false] rfl rfl (any_of HT_.out (by kernel_rfl)) (fun _ _ _ h => h) (Or.inl ⟨by rfl, ?_⟩) ?_ ?_
    rotate_left
    · intro w'
      go_simp
      with_reducible rfl
    rotate_left
    · simp only [Act.put, List.setIfInBounds_toArray, List.set_cons_zero, List.set_cons_succ, i64_w, i32_w]
      rfl
    refine one_ (i := 27) (N := some 54) #[true, true, true, true, true, true, true, true, true, true, true, true, true, true, true, true, true, true, true, true, true, true, true, true, true, true, true, true, false, false] rfl rfl (one_of HT_.out (by kernel_rfl)) (by decide) (fun K hK => ?_)
    refine goes_ Tryd.func15 (by kernel_rfl) rfl #[] (by rfl) rfl rfl (by (try simp only [List.map_toArray, List.map_cons, List.map_nil]); first | done | rfl | (simp only [List.length_drop, List.length_take]; rfl)) ?_
    with_reducible refine (PRoll.berthinglaw21_one.calls k true _ (RollNext.Tab.go (below_step B4 hHeld) hT) hone).mono ?_
    rintro e w9 ⟨rfl, hb9⟩
    refine ⟨_, rfl, ?_⟩
    refine hK.out _ _ (below_step hHeld hb9) (fun hHeld => ?_)
    clear hK K
    refine norm_ (a' := ?_) ?_ ?_
    rotate_left
    · show Act.put _ (some 54) _ = _
      simp only [Act.put, List.setIfInBounds_toArray, List.set_cons_zero, List.set_cons_succ, i64_w, i32_w]
      rfl
    refine pure_ (i := 28) (N := some 55) (v := ?_) (a' := ?_) #[true, true, true, true, true, true, true, true, true, true, true, true, true, true, true, true, true, true, true, true, true, true, true, true, true, true, true, true, true, false] rfl rfl (any_of HT_.out (by kernel_rfl)) (fun _ _ _ h => h) (Or.inl ⟨by rfl, ?_⟩) ?_ ?_
    rotate_left
    · intro w'
      go_simp
      with_reducible rfl
    rotate_left
    · simp only [Act.put, List.setIfInBounds_toArray, List.set_cons_zero, List.set_cons_succ, i64_w, i32_w]
      rfl
    refine one_ (i := 29) (N := some 4) #[true, true, true, true, true, true, true, true, true, true, true, true, true, true, true, true, true, true, true, true, true, true, true, true, true, true, true, true, true, true] rfl rfl (one_of HT_.out (by kernel_rfl)) (by decide) (fun K hK => ?_)
    refine value_ rfl rfl (by go_simp; exact ⟨rfl, rfl⟩) ?_
    refine hK.out _ _ (hHeld) (fun hHeld => ?_)
    clear hK K
    refine norm_ (a' := ?_) ?_ ?_
    rotate_left
    · show Act.put _ (some 4) _ = _
      simp only [Act.put, List.setIfInBounds_toArray, List.set_cons_zero, List.set_cons_succ, i64_w, i32_w]
      rfl
    refine done_ (done_of HT_.out (by kernel_rfl)) ?_
    go_wp2
    go_ret
    exact ⟨rfl, below_step B4 hHeld⟩
  · skip
    refine goes_ Tryd.func20 (by kernel_rfl) rfl #[.agg #[.int .i64 a, .int .i64 b, .int .u64 c, .int .u64 d]] (by rfl) rfl rfl (by (try simp only [List.map_toArray, List.map_cons, List.map_nil]); first | done | rfl | (simp only [List.length_drop, List.length_take]; rfl)) ?_
    with_reducible refine (berthinglaw21_Own.calls k a b c d a b L3 L4 _ ho).mono ?_
    rintro e w6 ⟨v6, v7, rfl, R6, R7, hb6⟩
    obtain ⟨A6, c6, rfl, le6, C6⟩ := Kd.R_reads R6
    obtain ⟨A7, c7, rfl, le7, C7⟩ := Kd.R_reads R7
    refine ⟨_, rfl, ?_⟩
    refine hK.out _ _ (below_step hHeld hb6) (fun hHeld => ?_)
    clear hK K
    refine norm_ (a' := ?_) ?_ ?_
    rotate_left
    · show Act.put _ (some 34) _ = _
      simp only [Act.put, List.setIfInBounds_toArray, List.set_cons_zero, List.set_cons_succ, i64_w, i32_w]
      rfl
    refine two_ (i := 3) (j := 8) (Ni := some 30) (Nj := some 35) #[true, true, true, true, true, true, true, true, false, false, false, false, false, false, false, false, false, false, false, false, false, false, false, false, false, false, false, false, false, false] #[true, true, true, false, true, true, true, true, true, false, false, false, false, false, false, false, false, false, false, false, false, false, false, false, false, false, false, false, false, false] rfl rfl rfl rfl (two_of HT_.out (by kernel_rfl)) (by decide) (by decide) (fun K hK => ?_) (fun K hK => ?_)
    · skip
      have hcw := Kd.C_string (P := Tryd.prog) (w := w6) (src := 37) (dst := 9) (e := 5) (c := c5) Tryd.underlying37 Tryd.underlying5 Tryd.underlying9 (Kd.C_below C5 hb6)
      rw [hS] at hcw
      refine value_ rfl rfl (by go_simp; exact ⟨rfl, rfl⟩) ?_
      refine hK.out _ _ (hHeld) (fun hHeld => ?_)
      clear hK K
      refine norm_ (a' := ?_) ?_ ?_
      rotate_left
      · show Act.put _ (some 30) _ = _
        simp only [Act.put, List.setIfInBounds_toArray, List.set_cons_zero, List.set_cons_succ, i64_w, i32_w]
        rfl
      refine one_ (i := 8) (N := some 35) #[true, true, true, true, true, true, true, true, true, false, false, false, false, false, false, false, false, false, false, false, false, false, false, false, false, false, false, false, false, false] rfl rfl (one_of HT_.out (by kernel_rfl)) (by decide) (fun K hK => ?_)
      refine goes_ Tryd.func19 (by kernel_rfl) rfl #[.string B, .agg #[.int .i64 a, .int .i64 b, .slice A6 L3.length c6, .slice A7 L4.length c7]] (by rfl) rfl rfl (by (try simp only [List.map_toArray, List.map_cons, List.map_nil]); first | done | rfl | (simp only [List.length_drop, List.length_take]; rfl)) ?_
      with_reducible refine (berthingref21_Put.calls k B a b A6 c6 L3 A7 c7 L4 S _ C6 le6 C7 le7 hp).mono ?_
      rintro e w7 ⟨rfl, hb7⟩
      refine ⟨_, rfl, ?_⟩
      refine hK.out _ _ (below_step hHeld hb7) (fun hHeld => ?_)
      clear hK K
      refine norm_ (a' := ?_) ?_ ?_
      rotate_left
      · show Act.put _ (some 35) _ = _
        simp only [Act.put, List.setIfInBounds_toArray, List.set_cons_zero, List.set_cons_succ, i64_w, i32_w]
        rfl
      refine pure_ (i := 9) (N := some 36) (v := ?_) (a' := ?_) #[true, true, true, true, true, true, true, true, true, true, false, false, false, false, false, false, false, false, false, false, false, false, false, false, false, false, false, false, false, false] rfl rfl (any_of HT_.out (by kernel_rfl)) (fun _ _ _ h => h) (Or.inl ⟨by rfl, ?_⟩) ?_ ?_
      rotate_left
      · intro w'
        go_simp
        with_reducible rfl
      rotate_left
      · simp only [Act.put, List.setIfInBounds_toArray, List.set_cons_zero, List.set_cons_succ, i64_w, i32_w]
        rfl
      refine pure_ (i := 10) (N := some 37) (v := ?_) (a' := ?_) #[true, true, true, true, true, true, true, true, true, true, true, false, false, false, false, false, false, false, false, false, false, false, false, false, false, false, false, false, false, false] rfl rfl (any_of HT_.out (by kernel_rfl)) (fun _ _ _ h => h) (Or.inl ⟨by rfl, ?_⟩) ?_ ?_
      rotate_left
      · intro w'
        go_simp
        with_reducible rfl
      rotate_left
      · simp only [Act.put, List.setIfInBounds_toArray, List.set_cons_zero, List.set_cons_succ, i64_w, i32_w]
        rfl
      refine pure_ (i := 11) (N := some 38) (v := ?_) (a' := ?_) #[true, true, true, true, true, true, true, true, true, true, true, true, false, false, false, false, false, false, false, false, false, false, false, false, false, false, false, false, false, false] rfl rfl (any_of HT_.out (by kernel_rfl)) (fun _ _ _ h => h) (Or.inl ⟨by rfl, ?_⟩) ?_ ?_
      rotate_left
      · intro w'
        go_simp
        with_reducible rfl
      rotate_left
      · simp only [Act.put, List.setIfInBounds_toArray, List.set_cons_zero, List.set_cons_succ, i64_w, i32_w]
        rfl
      refine pure_ (i := 12) (N := some 39) (v := ?_) (a' := ?_) #[true, true, true, true, true, true, true, true, true, true, true, true, true, false, false, false, false, false, false, false, false, false, false, false, false, false, false, false, false, false] rfl rfl (any_of HT_.out (by kernel_rfl)) (fun _ _ _ h => h) (Or.inl ⟨by rfl, ?_⟩) ?_ ?_
      rotate_left
      · intro w'
        go_simp
        with_reducible rfl
      rotate_left
      · simp only [Act.put, List.setIfInBounds_toArray, List.set_cons_zero, List.set_cons_succ, i64_w, i32_w]
        rfl
      refine pure_ (i := 13) (N := some 40) (v := ?_) (a' := ?_) #[true, true, true, true, true, true, true, true, true, true, true, true, true, true, false, false, false, false, false, false, false, false, false, false, false, false, false, false, false, false] rfl rfl (any_of HT_.out (by kernel_rfl)) (fun _ _ _ h => h) (Or.inl ⟨by rfl, ?_⟩) ?_ ?_
      rotate_left
      · intro w'
        go_simp
        with_reducible rfl
      rotate_left
      · simp only [Act.put, List.setIfInBounds_toArray, List.set_cons_zero, List.set_cons_succ, i64_w, i32_w]
        rfl
      refine pure_ (i := 14) (N := some 41) (v := ?_) (a' := ?_) #[true, true, true, true, true, true, true, true, true, true, true, true, true, true, true, false, false, false, false, false, false, false, false, false, false, false, false, false, false, false] rfl rfl (any_of HT_.out (by kernel_rfl)) (fun _ _ _ h => h) (Or.inl ⟨by rfl, ?_⟩) ?_ ?_
      rotate_left
      · intro w'
        go_simp
        with_reducible rfl
      rotate_left
      · simp only [Act.put, List.setIfInBounds_toArray, List.set_cons_zero, List.set_cons_succ, i64_w, i32_w]
        rfl
      refine pure_ (i := 15) (N := some 42) (v := ?_) (a' := ?_) #[true, true, true, true, true, true, true, true, true, true, true, true, true, true, true, true, false, false, false, false, false, false, false, false, false, false, false, false, false, false] rfl rfl (any_of HT_.out (by kernel_rfl)) (fun _ _ _ h => h) (Or.inl ⟨by rfl, ?_⟩) ?_ ?_
      rotate_left
      · intro w'
        go_simp
        with_reducible rfl
      rotate_left
      · simp only [Act.put, List.setIfInBounds_toArray, List.set_cons_zero, List.set_cons_succ, i64_w, i32_w]
        rfl
      refine pure_ (i := 16) (N := some 43) (v := ?_) (a' := ?_) #[true, true, true, true, true, true, true, true, true, true, true, true, true, true, true, true, true, false, false, false, false, false, false, false, false, false, false, false, false, false] rfl rfl (any_of HT_.out (by kernel_rfl)) (fun _ _ _ h => h) (Or.inl ⟨by rfl, ?_⟩) ?_ ?_
      rotate_left
      · intro w'
        go_simp
        with_reducible rfl
      rotate_left
      · simp only [Act.put, List.setIfInBounds_toArray, List.set_cons_zero, List.set_cons_succ, i64_w, i32_w]
        rfl
      refine pure_ (i := 17) (N := some 44) (v := ?_) (a' := ?_) #[true, true, true, true, true, true, true, true, true, true, true, true, true, true, true, true, true, true, false, false, false, false, false, false, false, false, false, false, false, false] rfl rfl (any_of HT_.out (by kernel_rfl)) (fun _ _ _ h => h) (Or.inl ⟨by rfl, ?_⟩) ?_ ?_
      rotate_left
      · intro w'
        go_simp
        with_reducible rfl
      rotate_left
      · simp only [Act.put, List.setIfInBounds_toArray, List.set_cons_zero, List.set_cons_succ, i64_w, i32_w]
        rfl
      refine pure_ (i := 18) (N := some 45) (v := ?_) (a' := ?_) #[true, true, true, true, true, true, true, true, true, true, true, true, true, true, true, true, true, true, true, false, false, false, false, false, false, false, false, false, false, false] rfl rfl (any_of HT_.out (by kernel_rfl)) (fun _ _ _ h => h) (Or.inl ⟨by rfl, ?_⟩) ?_ ?_
      rotate_left
      · intro w'
        go_simp
        with_reducible rfl
      rotate_left
      · simp only [Act.put, List.setIfInBounds_toArray, List.set_cons_zero, List.set_cons_succ, i64_w, i32_w]
        rfl
      refine pure_ (i := 19) (N := some 46) (v := ?_) (a' := ?_) #[true, true, true, true, true, true, true, true, true, true, true, true, true, true, true, true, true, true, true, true, false, false, false, false, false, false, false, false, false, false] rfl rfl (any_of HT_.out (by kernel_rfl)) (fun _ _ _ h => h) (Or.inl ⟨by rfl, ?_⟩) ?_ ?_
      rotate_left
      · intro w'
        go_simp
        with_reducible rfl
      rotate_left
      · simp only [Act.put, List.setIfInBounds_toArray, List.set_cons_zero, List.set_cons_succ, i64_w, i32_w]
        rfl
      refine pure_ (i := 20) (N := some 47) (v := ?_) (a' := ?_) #[true, true, true, true, true, true, true, true, true, true, true, true, true, true, true, true, true, true, true, true, true, false, false, false, false, false, false, false, false, false] rfl rfl (any_of HT_.out (by kernel_rfl)) (fun _ _ _ h => h) (Or.inl ⟨by rfl, ?_⟩) ?_ ?_
      rotate_left
      · intro w'
        go_simp
        with_reducible rfl
      rotate_left
      · simp only [Act.put, List.setIfInBounds_toArray, List.set_cons_zero, List.set_cons_succ, i64_w, i32_w]
        rfl
      refine take_ (i := 21) (N := some 48) (v := ?_) (a' := ?_) #[true, true, true, true, true, true, true, true, true, true, true, true, true, true, true, true, true, true, true, true, true, true, false, false, false, false, false, false, false, false] rfl rfl (take_ofW HT_.out HW_.out (by kernel_rfl)) (fun _ _ _ h => h) (Or.inl ⟨by rfl, ?_⟩) hHeld ?_ ?_
      rotate_left
      · rintro w' s0
        have g0 : w'.cell? ⟨wa.heap.size, 0, none⟩ = some (.int .i64 x0) := (blk_cell (blk_below bx4 s0) 0).trans rfl
        have g1 : w'.cell? ⟨wa.heap.size, 1, none⟩ = some (.int .i64 x1) := (blk_cell (blk_below bx4 s0) 1).trans rfl
        have g2 : w'.cell? ⟨wa.heap.size, 2, none⟩ = some (.int .u64 x2) := (blk_cell (blk_below bx4 s0) 2).trans rfl
        have g3 : w'.cell? ⟨wa.heap.size, 3, none⟩ = some (.int .u64 x3) := (blk_cell (blk_below bx4 s0) 3).trans rfl
        go_simp
        with_reducible rfl
      rotate_left
      · simp only [Act.put, List.setIfInBounds_toArray, List.set_cons_zero, List.set_cons_succ, i64_w, i32_w]
        rfl
      refine take_ (i := 22) (N := some 49) (v := ?_) (a' := ?_) #[true, true, true, true, true, true, true, true, true, true, true, true, true, true, true, true, true, true, true, true, true, true, true, false, false, false, false, false, false, false] rfl rfl (take_ofW HT_.out HW_.out (by kernel_rfl)) (fun _ _ _ h => h) (Or.inl ⟨by rfl, ?_⟩) hHeld ?_ ?_
      rotate_left
      · rintro w' s0
        have g0 : w'.cell? ⟨wb.heap.size, 0, none⟩ = some (.int .i64 y0) := (blk_cell (blk_below by4 s0) 0).trans rfl
        have g1 : w'.cell? ⟨wb.heap.size, 1, none⟩ = some (.int .i64 y1) := (blk_cell (blk_below by4 s0) 1).trans rfl
        have g2 : w'.cell? ⟨wb.heap.size, 2, none⟩ = some (.slice A2 Y2.length c2) := (blk_cell (blk_below by4 s0) 2).trans rfl
        have g3 : w'.cell? ⟨wb.heap.size, 3, none⟩ = some (.slice A3 Y3.length c3) := (blk_cell (blk_below by4 s0) 3).trans rfl
        go_simp
        with_reducible rfl
      rotate_left
      · simp only [Act.put, List.setIfInBounds_toArray, List.set_cons_zero, List.set_cons_succ, i64_w, i32_w]
        rfl
      refine one_ (i := 23) (N := some 50) #[true, true, true, true, true, true, true, true, true, true, true, true, true, true, true, true, true, true, true, true, true, true, true, true, false, false, false, false, false, false] rfl rfl (one_of HT_.out (by kernel_rfl)) (by decide) (fun K hK => ?_)
      refine goes_ Tryd.func21 (by kernel_rfl) rfl #[.agg #[.int .i64 x0, .int .i64 x1, .int .u64 x2, .int .u64 x3], .agg #[.int .i64 y0, .int .i64 y1, .slice A2 Y2.length c2, .slice A3 Y3.length c3]] (by rfl) rfl rfl (by (try simp only [List.map_toArray, List.map_cons, List.map_nil]); first | done | rfl | (simp only [List.length_drop, List.length_take]; rfl)) ?_
      with_reducible refine (berthinglaw21_Like.calls k x0 x1 x2 x3 y0 y1 A2 c2 Y2 A3 c3 Y3 1 _ (Kd.C_below D2' hHeld) le2 (Kd.C_below D3' hHeld) le3 hk).mono ?_
      rintro e w8 ⟨rfl, hb8⟩
      refine ⟨_, rfl, ?_⟩
      refine hK.out _ _ (below_step hHeld hb8) (fun hHeld => ?_)
      clear hK K
      refine norm_ (a' := ?_) ?_ ?_
      rotate_left
      · show Act.put _ (some 50) _ = _
        simp only [Act.put, List.setIfInBounds_toArray, List.set_cons_zero, List.set_cons_succ, i64_w, i32_w]
        rfl
      refine pure_ (i := 24) (N := some 51) (v := ?_) (a' := ?_) #[true, true, true, true, true, true, true, true, true, true, true, true, true, true, true, true, true, true, true, true, true, true, true, true, true, false, false, false, false, false] rfl rfl (any_of HT_.out (by kernel_rfl)) (fun _ _ _ h => h) (Or.inl ⟨by rfl, ?_⟩) ?_ ?_
      rotate_left
      · intro w'
        go_simp
        with_reducible rfl
      rotate_left
      · simp only [Act.put, List.setIfInBounds_toArray, List.set_cons_zero, List.set_cons_succ, i64_w, i32_w]
        rfl
      refine pure_ (i := 25) (N := some 52) (v := ?_) (a' := ?_) #[true, true, true, true, true, true, true, true, true, true, true, true, true, true, true, true, true, true, true, true, true, true, true, true, true, true, false, false, false, false] rfl rfl (any_of HT_.out (by kernel_rfl)) (fun _ _ _ h => h) (Or.inl ⟨by rfl, ?_⟩) ?_ ?_
      rotate_left
      · intro w'
        go_simp
        with_reducible rfl
      rotate_left
      · simp only [Act.put, List.setIfInBounds_toArray, List.set_cons_zero, List.set_cons_succ, i64_w, i32_w]
        rfl
      refine pure_ (i := 26) (N := some 53) (v := ?_) (a' := ?_) #[true, true, true, true, true, true, true, true, true, true, true, true, true, true, true, true, true, true, true, true, true, true, true, true, true, true, true, false, false, false] rfl rfl (any_of HT_.out (by kernel_rfl)) (fun _ _ _ h => h) (Or.inl ⟨by rfl, ?_⟩) ?_ ?_
      rotate_left
      · intro w'
        go_simp
        with_reducible rfl
      rotate_left
      · simp only [Act.put, List.setIfInBounds_toArray, List.set_cons_zero, List.set_cons_succ, i64_w, i32_w]
        rfl
      refine one_ (i := 27) (N := some 54) #[true, true, true, true, true, true, true, true, true, true, true, true, true, true, true, true, true, true, true, true, true, true, true, true, true, true, true, true, false, false] rfl rfl (one_of HT_.out (by kernel_rfl)) (by decide) (fun K hK => ?_)
      refine goes_ Tryd.func15 (by kernel_rfl) rfl #[] (by rfl) rfl rfl (by (try simp only [List.map_toArray, List.map_cons, List.map_nil]); first | done | rfl | (simp only [List.length_drop, List.length_take]; rfl)) ?_
      with_reducible refine (PRoll.berthinglaw21_one.calls k true _ (RollNext.Tab.go (below_step B4 hHeld) hT) hone).mono ?_
      rintro e w9 ⟨rfl, hb9⟩
      refine ⟨_, rfl, ?_⟩
      refine hK.out _ _ (below_step hHeld hb9) (fun hHeld => ?_)
      clear hK K
      refine norm_ (a' := ?_) ?_ ?_
      rotate_left
      · show Act.put _ (some 54) _ = _
        simp only [Act.put, List.setIfInBounds_toArray, List.set_cons_zero, List.set_cons_succ, i64_w, i32_w]
        rfl
      refine pure_ (i := 28) (N := some 55) (v := ?_) (a' := ?_) #[true, true, true, true, true, true, true, true, true, true, true, true, true, true, true, true, true, true, true, true, true, true, true, true, true, true, true, true, true, false] rfl rfl (any_of HT_.out (by kernel_rfl)) (fun _ _ _ h => h) (Or.inl ⟨by rfl, ?_⟩) ?_ ?_
      rotate_left
      · intro w'
        go_simp
        with_reducible rfl
      rotate_left
      · simp only [Act.put, List.setIfInBounds_toArray, List.set_cons_zero, List.set_cons_succ, i64_w, i32_w]
        rfl
      refine one_ (i := 29) (N := some 4) #[true, true, true, true, true, true, true, true, true, true, true, true, true, true, true, true, true, true, true, true, true, true, true, true, true, true, true, true, true, true] rfl rfl (one_of HT_.out (by kernel_rfl)) (by decide) (fun K hK => ?_)
      refine value_ rfl rfl (by go_simp; exact ⟨rfl, rfl⟩) ?_
      refine hK.out _ _ (hHeld) (fun hHeld => ?_)
      clear hK K
      refine norm_ (a' := ?_) ?_ ?_
      rotate_left
      · show Act.put _ (some 4) _ = _
        simp only [Act.put, List.setIfInBounds_toArray, List.set_cons_zero, List.set_cons_succ, i64_w, i32_w]
        rfl
      refine done_ (done_of HT_.out (by kernel_rfl)) ?_
      go_wp2
      go_ret
      exact ⟨rfl, below_step B4 hHeld⟩
    · skip
      refine goes_ Tryd.func19 (by kernel_rfl) rfl #[.string B, .agg #[.int .i64 a, .int .i64 b, .slice A6 L3.length c6, .slice A7 L4.length c7]] (by rfl) rfl rfl (by (try simp only [List.map_toArray, List.map_cons, List.map_nil]); first | done | rfl | (simp only [List.length_drop, List.length_take]; rfl)) ?_
      with_reducible refine (berthingref21_Put.calls k B a b A6 c6 L3 A7 c7 L4 S _ C6 le6 C7 le7 hp).mono ?_
      rintro e w7 ⟨rfl, hb7⟩
      refine ⟨_, rfl, ?_⟩
      refine hK.out _ _ (below_step hHeld hb7) (fun hHeld => ?_)
      clear hK K
      refine norm_ (a' := ?_) ?_ ?_
      rotate_left
      · show Act.put _ (some 35) _ = _
        simp only [Act.put, List.setIfInBounds_toArray, List.set_cons_zero, List.set_cons_succ, i64_w, i32_w]
        rfl
      refine one_ (i := 3) (N := some 30) #[true, true, true, true, true, true, true, true, true, false, false, false, false, false, false, false, false, false, false, false, false, false, false, false, false, false, false, false, false, false] rfl rfl (one_of HT_.out (by kernel_rfl)) (by decide) (fun K hK => ?_)
      have hcw := Kd.C_string (P := Tryd.prog) (w := w7) (src := 37) (dst := 9) (e := 5) (c := c5) Tryd.underlying37 Tryd.underlying5 Tryd.underlying9 (Kd.C_below (Kd.C_below C5 hb6) hb7)
      rw [hS] at hcw
      refine value_ rfl rfl (by go_simp; exact ⟨rfl, rfl⟩) ?_
      refine hK.out _ _ (hHeld) (fun hHeld => ?_)
      clear hK K
      refine norm_ (a' := ?_) ?_ ?_
      rotate_left
      · show Act.put _ (some 30) _ = _
        simp only [Act.put, List.setIfInBounds_toArray, List.set_cons_zero, List.set_cons_succ, i64_w, i32_w]
        rfl
      refine pure_ (i := 9) (N := some 36) (v := ?_) (a' := ?_) #[true, true, true, true, true, true, true, true, true, true, false, false, false, false, false, false, false, false, false, false, false, false, false, false, false, false, false, false, false, false] rfl rfl (any_of HT_.out (by kernel_rfl)) (fun _ _ _ h => h) (Or.inl ⟨by rfl, ?_⟩) ?_ ?_
      rotate_left
      · intro w'
        go_simp
        with_reducible rfl
      rotate_left
      · simp only [Act.put, List.setIfInBounds_toArray, List.set_cons_zero, List.set_cons_succ, i64_w, i32_w]
        rfl
      refine pure_ (i := 10) (N := some 37) (v := ?_) (a' := ?_) #[true, true, true, true, true, true, true, true, true, true, true, false, false, false, false, false, false, false, false, false, false, false, false, false, false, false, false, false, false, false] rfl rfl (any_of HT_.out (by kernel_rfl)) (fun _ _ _ h => h) (Or.inl ⟨by rfl, ?_⟩) ?_ ?_
      rotate_left
      · intro w'
        go_simp
        with_reducible rfl
      rotate_left
      · simp only [Act.put, List.setIfInBounds_toArray, List.set_cons_zero, List.set_cons_succ, i64_w, i32_w]
        rfl
      refine pure_ (i := 11) (N := some 38) (v := ?_) (a' := ?_) #[true, true, true, true, true, true, true, true, true, true, true, true, false, false, false, false, false, false, false, false, false, false, false, false, false, false, false, false, false, false] rfl rfl (any_of HT_.out (by kernel_rfl)) (fun _ _ _ h => h) (Or.inl ⟨by rfl, ?_⟩) ?_ ?_
      rotate_left
      · intro w'
        go_simp
        with_reducible rfl
      rotate_left
      · simp only [Act.put, List.setIfInBounds_toArray, List.set_cons_zero, List.set_cons_succ, i64_w, i32_w]
        rfl
      refine pure_ (i := 12) (N := some 39) (v := ?_) (a' := ?_) #[true, true, true, true, true, true, true, true, true, true, true, true, true, false, false, false, false, false, false, false, false, false, false, false, false, false, false, false, false, false] rfl rfl (any_of HT_.out (by kernel_rfl)) (fun _ _ _ h => h) (Or.inl ⟨by rfl, ?_⟩) ?_ ?_
      rotate_left
      · intro w'
        go_simp
        with_reducible rfl
      rotate_left
      · simp only [Act.put, List.setIfInBounds_toArray, List.set_cons_zero, List.set_cons_succ, i64_w, i32_w]
        rfl
      refine pure_ (i := 13) (N := some 40) (v := ?_) (a' := ?_) #[true, true, true, true, true, true, true, true, true, true, true, true, true, true, false, false, false, false, false, false, false, false, false, false, false, false, false, false, false, false] rfl rfl (any_of HT_.out (by kernel_rfl)) (fun _ _ _ h => h) (Or.inl ⟨by rfl, ?_⟩) ?_ ?_
      rotate_left
      · intro w'
        go_simp
        with_reducible rfl
      rotate_left
      · simp only [Act.put, List.setIfInBounds_toArray, List.set_cons_zero, List.set_cons_succ, i64_w, i32_w]
        rfl
      refine pure_ (i := 14) (N := some 41) (v := ?_) (a' := ?_) #[true, true, true, true, true, true, true, true, true, true, true, true, true, true, true, false, false, false, false, false, false, false, false, false, false, false, false, false, false, false] rfl rfl (any_of HT_.out (by kernel_rfl)) (fun _ _ _ h => h) (Or.inl ⟨by rfl, ?_⟩) ?_ ?_
      rotate_left
      · intro w'
        go_simp
        with_reducible rfl
      rotate_left
      · simp only [Act.put, List.setIfInBounds_toArray, List.set_cons_zero, List.set_cons_succ, i64_w, i32_w]
        rfl
      refine pure_ (i := 15) (N := some 42) (v := ?_) (a' := ?_) #[true, true, true, true, true, true, true, true, true, true, true, true, true, true, true, true, false, false, false, false, false, false, false, false, false, false, false, false, false, false] rfl rfl (any_of HT_.out (by kernel_rfl)) (fun _ _ _ h => h) (Or.inl ⟨by rfl, ?_⟩) ?_ ?_
      rotate_left
      · intro w'
        go_simp
        with_reducible rfl
      rotate_left
      · simp only [Act.put, List.setIfInBounds_toArray, List.set_cons_zero, List.set_cons_succ, i64_w, i32_w]
        rfl
      refine pure_ (i := 16) (N := some 43) (v := ?_) (a' := ?_) #[true, true, true, true, true, true, true, true, true, true, true, true, true, true, true, true, true, false, false, false, false, false, false, false, false, false, false, false, false, false] rfl rfl (any_of HT_.out (by kernel_rfl)) (fun _ _ _ h => h) (Or.inl ⟨by rfl, ?_⟩) ?_ ?_
      rotate_left
      · intro w'
        go_simp
        with_reducible rfl
      rotate_left
      · simp only [Act.put, List.setIfInBounds_toArray, List.set_cons_zero, List.set_cons_succ, i64_w, i32_w]
        rfl
      refine pure_ (i := 17) (N := some 44) (v := ?_) (a' := ?_) #[true, true, true, true, true, true, true, true, true, true, true, true, true, true, true, true, true, true, false, false, false, false, false, false, false, false, false, false, false, false] rfl rfl (any_of HT_.out (by kernel_rfl)) (fun _ _ _ h => h) (Or.inl ⟨by rfl, ?_⟩) ?_ ?_
      rotate_left
      · intro w'
        go_simp
        with_reducible rfl
      rotate_left
      · simp only [Act.put, List.setIfInBounds_toArray, List.set_cons_zero, List.set_cons_succ, i64_w, i32_w]
        rfl
      refine pure_ (i := 18) (N := some 45) (v := ?_) (a' := ?_) #[true, true, true, true, true, true, true, true, true, true, true, true, true, true, true, true, true, true, true, false, false, false, false, false, false, false, false, false, false, false] rfl rfl (any_of HT_.out (by kernel_rfl)) (fun _ _ _ h => h) (Or.inl ⟨by rfl, ?_⟩) ?_ ?_
      rotate_left
      · intro w'
        go_simp
        with_reducible rfl
      rotate_left
      · simp only [Act.put, List.setIfInBounds_toArray, List.set_cons_zero, List.set_cons_succ, i64_w, i32_w]
        rfl
      refine pure_ (i := 19) (N := some 46) (v := ?_) (a' := ?_) #[true, true, true, true, true, true, true, true, true, true, true, true, true, true, true, true, true, true, true, true, false, false, false, false, false, false, false, false, false, false] rfl rfl (any_of HT_.out (by kernel_rfl)) (fun _ _ _ h => h) (Or.inl ⟨by rfl, ?_⟩) ?_ ?_
      rotate_left
      · intro w'
        go_simp
        with_reducible rfl
      rotate_left
      · simp only [Act.put, List.setIfInBounds_toArray, List.set_cons_zero, List.set_cons_succ, i64_w, i32_w]
        rfl
      refine pure_ (i := 20) (N := some 47) (v := ?_) (a' := ?_) #[true, true, true, true, true, true, true, true, true, true, true, true, true, true, true, true, true, true, true, true, true, false, false, false, false, false, false, false, false, false] rfl rfl (any_of HT_.out (by kernel_rfl)) (fun _ _ _ h => h) (Or.inl ⟨by rfl, ?_⟩) ?_ ?_
      rotate_left
      · intro w'
        go_simp
        with_reducible rfl
      rotate_left
      · simp only [Act.put, List.setIfInBounds_toArray, List.set_cons_zero, List.set_cons_succ, i64_w, i32_w]
        rfl
      refine take_ (i := 21) (N := some 48) (v := ?_) (a' := ?_) #[true, true, true, true, true, true, true, true, true, true, true, true, true, true, true, true, true, true, true, true, true, true, false, false, false, false, false, false, false, false] rfl rfl (take_ofW HT_.out HW_.out (by kernel_rfl)) (fun _ _ _ h => h) (Or.inl ⟨by rfl, ?_⟩) hHeld ?_ ?_
      rotate_left
      · rintro w' s0
        have g0 : w'.cell? ⟨wa.heap.size, 0, none⟩ = some (.int .i64 x0) := (blk_cell (blk_below bx4 s0) 0).trans rfl
        have g1 : w'.cell? ⟨wa.heap.size, 1, none⟩ = some (.int .i64 x1) := (blk_cell (blk_below bx4 s0) 1).trans rfl
        have g2 : w'.cell? ⟨wa.heap.size, 2, none⟩ = some (.int .u64 x2) := (blk_cell (blk_below bx4 s0) 2).trans rfl
        have g3 : w'.cell? ⟨wa.heap.size, 3, none⟩ = some (.int .u64 x3) := (blk_cell (blk_below bx4 s0) 3).trans rfl
        go_simp
        with_reducible rfl
      rotate_left
      · simp only [Act.put, List.setIfInBounds_toArray, List.set_cons_zero, List.set_cons_succ, i64_w, i32_w]
        rfl
      refine take_ (i := 22) (N := some 49) (v := ?_) (a' := ?_) #[true, true, true, true, true, true, true, true, true, true, true, true, true, true, true, true, true, true, true, true, true, true, true, false, false, false, false, false, false, false] rfl rfl (take_ofW HT_.out HW_.out (by kernel_rfl)) (fun _ _ _ h => h) (Or.inl ⟨by rfl, ?_⟩) hHeld ?_ ?_
      rotate_left
      · rintro w' s0
        have g0 : w'.cell? ⟨wb.heap.size, 0, none⟩ = some (.int .i64 y0) := (blk_cell (blk_below by4 s0) 0).trans rfl
        have g1 : w'.cell? ⟨wb.heap.size, 1, none⟩ = some (.int .i64 y1) := (blk_cell (blk_below by4 s0) 1).trans rfl
        have g2 : w'.cell? ⟨wb.heap.size, 2, none⟩ = some (.slice A2 Y2.length c2) := (blk_cell (blk_below by4 s0) 2).trans rfl
        have g3 : w'.cell? ⟨wb.heap.size, 3, none⟩ = some (.slice A3 Y3.length c3) := (blk_cell (blk_below by4 s0) 3).trans rfl
        go_simp
        with_reducible rfl
      rotate_left
      · simp only [Act.put, List.setIfInBounds_toArray, List.set_cons_zero, List.set_cons_succ, i64_w, i32_w]
        rfl
      refine one_ (i := 23) (N := some 50) #[true, true, true, true, true, true, true, true, true, true, true, true, true, true, true, true, true, true, true, true, true, true, true, true, false, false, false, false, false, false] rfl rfl (one_of HT_.out (by kernel_rfl)) (by decide) (fun K hK => ?_)
      refine goes_ Tryd.func21 (by kernel_rfl) rfl #[.agg #[.int .i64 x0, .int .i64 x1, .int .u64 x2, .int .u64 x3], .agg #[.int .i64 y0, .int .i64 y1, .slice A2 Y2.length c2, .slice A3 Y3.length c3]] (by rfl) rfl rfl (by (try simp only [List.map_toArray, List.map_cons, List.map_nil]); first | done | rfl | (simp only [List.length_drop, List.length_take]; rfl)) ?_
      with_reducible refine (berthinglaw21_Like.calls k x0 x1 x2 x3 y0 y1 A2 c2 Y2 A3 c3 Y3 1 _ (Kd.C_below D2' hHeld) le2 (Kd.C_below D3' hHeld) le3 hk).mono ?_
      rintro e w8 ⟨rfl, hb8⟩
      refine ⟨_, rfl, ?_⟩
      refine hK.out _ _ (below_step hHeld hb8) (fun hHeld => ?_)
      clear hK K
      refine norm_ (a' := ?_) ?_ ?_
      rotate_left
      · show Act.put _ (some 50) _ = _
        simp only [Act.put, List.setIfInBounds_toArray, List.set_cons_zero, List.set_cons_succ, i64_w, i32_w]
        rfl
      refine pure_ (i := 24) (N := some 51) (v := ?_) (a' := ?_) #[true, true, true, true, true, true, true, true, true, true, true, true, true, true, true, true, true, true, true, true, true, true, true, true, true, false, false, false, false, false] rfl rfl (any_of HT_.out (by kernel_rfl)) (fun _ _ _ h => h) (Or.inl ⟨by rfl, ?_⟩) ?_ ?_
      rotate_left
      · intro w'
        go_simp
        with_reducible rfl
      rotate_left
      · simp only [Act.put, List.setIfInBounds_toArray, List.set_cons_zero, List.set_cons_succ, i64_w, i32_w]
        rfl
      refine pure_ (i := 25) (N := some 52) (v := ?_) (a' := ?_) #[true, true, true, true, true, true, true, true, true, true, true, true, true, true, true, true, true, true, true, true, true, true, true, true, true, true, false, false, false, false] rfl rfl (any_of HT_.out (by kernel_rfl)) (fun _ _ _ h => h) (Or.inl ⟨by rfl, ?_⟩) ?_ ?_
      rotate_left
      · intro w'
        go_simp
        with_reducible rfl
      rotate_left
      · simp only [Act.put, List.setIfInBounds_toArray, List.set_cons_zero, List.set_cons_succ, i64_w, i32_w]
        rfl
      refine pure_ (i := 26) (N := some 53) (v := ?_) (a' := ?_) #[true, true, true, true, true, true, true, true, true, true, true, true, true, true, true, true, true, true, true, true, true, true, true, true, true, true, true, false, false, false] rfl rfl (any_of HT_.out (by kernel_rfl)) (fun _ _ _ h => h) (Or.inl ⟨by rfl, ?_⟩) ?_ ?_
      rotate_left
      · intro w'
        go_simp
        with_reducible rfl
      rotate_left
      · simp only [Act.put, List.setIfInBounds_toArray, List.set_cons_zero, List.set_cons_succ, i64_w, i32_w]
        rfl
      refine one_ (i := 27) (N := some 54) #[true, true, true, true, true, true, true, true, true, true, true, true, true, true, true, true, true, true, true, true, true, true, true, true, true, true, true, true, false, false] rfl rfl (one_of HT_.out (by kernel_rfl)) (by decide) (fun K hK => ?_)
      refine goes_ Tryd.func15 (by kernel_rfl) rfl #[] (by rfl) rfl rfl (by (try simp only [List.map_toArray, List.map_cons, List.map_nil]); first | done | rfl | (simp only [List.length_drop, List.length_take]; rfl)) ?_
      with_reducible refine (PRoll.berthinglaw21_one.calls k true _ (RollNext.Tab.go (below_step B4 hHeld) hT) hone).mono ?_
      rintro e w9 ⟨rfl, hb9⟩
      refine ⟨_, rfl, ?_⟩
      refine hK.out _ _ (below_step hHeld hb9) (fun hHeld => ?_)
      clear hK K
      refine norm_ (a' := ?_) ?_ ?_
      rotate_left
      · show Act.put _ (some 54) _ = _
        simp only [Act.put, List.setIfInBounds_toArray, List.set_cons_zero, List.set_cons_succ, i64_w, i32_w]
        rfl
      refine pure_ (i := 28) (N := some 55) (v := ?_) (a' := ?_) #[true, true, true, true, true, true, true, true, true, true, true, true, true, true, true, true, true, true, true, true, true, true, true, true, true, true, true, true, true, false] rfl rfl (any_of HT_.out (by kernel_rfl)) (fun _ _ _ h => h) (Or.inl ⟨by rfl, ?_⟩) ?_ ?_
      rotate_left
      · intro w'
        go_simp
        with_reducible rfl
      rotate_left
      · simp only [Act.put, List.setIfInBounds_toArray, List.set_cons_zero, List.set_cons_succ, i64_w, i32_w]
        rfl
      refine one_ (i := 29) (N := some 4) #[true, true, true, true, true, true, true, true, true, true, true, true, true, true, true, true, true, true, true, true, true, true, true, true, true, true, true, true, true, true] rfl rfl (one_of HT_.out (by kernel_rfl)) (by decide) (fun K hK => ?_)
      refine value_ rfl rfl (by go_simp; exact ⟨rfl, rfl⟩) ?_
      refine hK.out _ _ (hHeld) (fun hHeld => ?_)
      clear hK K
      refine norm_ (a' := ?_) ?_ ?_
      rotate_left
      · show Act.put _ (some 4) _ = _
        simp only [Act.put, List.setIfInBounds_toArray, List.set_cons_zero, List.set_cons_succ, i64_w, i32_w]
        rfl
      refine done_ (done_of HT_.out (by kernel_rfl)) ?_
      go_wp2
      go_ret
      exact ⟨rfl, below_step B4 hHeld⟩
end Go.Proofs.YtmdjhdnejmegfaaDoor.LawWalk

set_option linter.unusedVariables false
set_option linter.unusedSimpArgs false
namespace Go.Proofs.YtmdjhdnejmegfaaDoor.ReadsLaw
open Go Go.Proofs Go.RowKit Go.Proofs.CodBytes Go.Proofs.BitsPlain Go.Proofs.YtmdjhdnejmegfaaDoorW.PrintWords Go.Proofs.YtmdjhdnejmegfaaDoorW.PrintLast Go.Proofs.YtmdjhdnejmegfaaDoorW.PrintMore Go.Proofs.YtmdjhdnejmegfaaDoor.PRollR
open Go.Proofs.YtmdjhdnejmegfaaDoor.CodSame Go.Proofs.YtmdjhdnejmegfaaDoor.CodSets Go.Proofs.YtmdjhdnejmegfaaDoor.RollRead Go.Proofs.YtmdjhdnejmegfaaDoor.LawWalk Go.Proofs.YtmdjhdnejmegfaaDoor.Cur Go.Proofs.YtmdjhdnejmegfaaDoor.AsErr

theorem up {α : Type} {f : Nat → Option α} (hm : ∀ k, LeO (f k) (f (k + 1))) {k k' : Nat} {r : α} (h : f k = some r) (hk : k ≤ k') : f k' = some r := by
  induction hk with
  | refl => exact h
  | step _ ih => exact hm _ _ ih
theorem one_f : PRoll.berthinglaw21_one.f 10 = some true := by decide +kernel

theorem and_f (a b : Nat) (ha : a < 18446744073709551616) (hb : b < 18446744073709551616) : PRollEnds.bits_Set_And.f (a : Int) (b : Int) = some ((a &&& b : Nat) : Int) := by
  unfold PRollEnds.bits_Set_And.f; rw [bits_and_u64_nat a b ha hb]
theorem or_f (a b : Nat) (ha : a < 18446744073709551616) (hb : b < 18446744073709551616) : PRollEnds.bits_Set_Or.f (a : Int) (b : Int) = some ((a ||| b : Nat) : Int) := by
  unfold PRollEnds.bits_Set_Or.f; rw [bits_or_u64_nat a b ha hb]
theorem less_f (a b : Nat) (ha : a < 18446744073709551616) (hb : b < 18446744073709551616) : PRollEnds.bits_Set_Less.f (a : Int) (b : Int) = some ((less a b : Nat) : Int) := by
  unfold PRollEnds.bits_Set_Less.f; rw [bits_less a b ha hb]
theorem less_all (x : Nat) (hx : x < 18446744073709551616) : less x 18446744073709551615 = 0 := by
  apply Nat.eq_of_testBit_eq
  intro i
  rw [testBit_less, Nat.zero_testBit]
  by_cases hi : i < 64
  · have : (18446744073709551615 : Nat).testBit i = true := by rw [show (18446744073709551615 : Nat) = 2 ^ 64 - 1 from rfl, Nat.testBit_two_pow_sub_one]; simpa using hi
    rw [this]; simp
  · have : x.testBit i = false := Nat.testBit_lt_two_pow (Nat.lt_of_lt_of_le hx (Nat.pow_le_pow_right (n := 2) (by omega) (by omega : 64 ≤ i)))
    rw [this]; rfl
theorem implRight (k : Nat) (W F : Int) (D H : Nat) (hD : D < 18446744073709551616) (hH : H < 18446744073709551616) : PRollEnds.roll_Roll_Right.f (k + 1) W F (D : Int) (H : Int) 64 = some (okR W F D H) := by
  have hj : ∀ (b : Bool), b = true → PRollEnds.roll_Roll_Right.j0 (k + 1) 64 b W F (D : Int) (H : Int) = some false := by
    intro b hb; rw [PRollEnds.roll_Roll_Right.j0, if_pos hb]
  unfold PRollEnds.roll_Roll_Right.f okR
  rw [if_neg (by omega), if_neg (by omega)]
  by_cases h1 : W < 1
  · rw [if_pos h1, hj _ rfl, decide_eq_false (by omega)]
  · rw [if_neg h1]
    by_cases h2 : W > 64
    · rw [hj _ (decide_eq_true h2), decide_eq_false (by omega)]
    · rw [PRollEnds.roll_Roll_Right.j0, decide_eq_false h2, if_neg (by simp)]
      by_cases h3 : F < 0
      · rw [if_pos h3, decide_eq_false (by omega)]
      · rw [if_neg h3]
        by_cases h4 : F ≥ 1099511627776
        · rw [if_pos h4, decide_eq_false (by omega)]
        · rw [if_neg h4, and_f D H hD hH]; simp only [Option.bind_some]
          have hf : PRollEnds.bits_First.f 64 = some 18446744073709551615 := by decide
          by_cases h5 : D &&& H = 0
          · rw [if_pos (by omega), or_f D H hD hH]; simp only [Option.bind_some]
            rw [hf]; simp only [Option.bind_some]
            have hl := less_f (D ||| H) 18446744073709551615 (or_lt D H hD hH) (by omega)
            rw [less_all _ (or_lt D H hD hH)] at hl
            rw [show ((18446744073709551615 : Nat) : Int) = 18446744073709551615 from rfl] at hl
            rw [hl]; simp only [Option.bind_some]
            rw [if_pos (by rfl), RollNext.len_f H hH]; simp only [Option.bind_some]
            congr 1
            rw [decide_eq_decide]; omega
          · rw [if_neg (by omega), decide_eq_false (by omega)]

theorem grpGo_len : ∀ (bs : List Int) (i : Nat) (u : Int), (grpGo bs i u).2.2.length ≤ bs.length
  | [], _, _ => by simp [grpGo]
  | y :: r, i, u => by
    unfold grpGo
    split
    · simp
    · split
      · simp
      · have := grpGo_len r (i + 1) (put7 u y i); simp; omega
theorem intOf_len (bs : List Int) (e : Int) : (Cur.intOf bs e).2.1.length ≤ bs.length := by
  unfold Cur.intOf; split
  · exact grpGo_len _ _ _
  · exact Nat.le_refl _
theorem wr_nat (v : Int) : ∃ n : Nat, IntKind.u64.wrap v = (n : Int) ∧ n < 18446744073709551616 := by
  rw [IntKind.wrap_u64]; exact ⟨(v % 18446744073709551616).toNat, by omega, by omega⟩
theorem i64_wrap (v : Int) : I64 (wrap64 v) := by unfold I64 wrap64; omega

theorem reads_law (a b c d : Int) (A0 : Option Addr) (c0 : Nat) (bs : List Int) (w : World) (hC : Kd.C (Kd.int .u8) w A0 bs.length bs) (hc0 : bs.length ≤ c0) (hb : ∀ x ∈ bs, 0 ≤ x ∧ x < 256)
    (ha : I64 a) (hbb : I64 b) (hc : 0 ≤ c ∧ c < 18446744073709551616) (hd : 0 ≤ d ∧ d < 18446744073709551616) (hm : bs.length ≤ 9223372036854775807) (hE : ErrT w) (hT : RollNext.Tab w) :
    Calls Tryd.prog 4 #[.agg #[.int .i64 a, .int .i64 b, .int .u64 c, .int .u64 d], .slice A0 bs.length c0] w fun ev w' => ev = .returned (.bool true) ∧ Below w.heap.size w w' := by
  by_cases hl : 500 < bs.length
  · exact reads_long a b c d A0 c0 bs w hl hm
  have hl' : bs.length ≤ 500 := by omega
  obtain ⟨t1, ht1⟩ : ∃ t, Cur.intOf bs 0 = t := ⟨_, rfl⟩
  obtain ⟨t2, ht2⟩ : ∃ t, Cur.intOf t1.2.1 t1.2.2 = t := ⟨_, rfl⟩
  obtain ⟨t3, ht3⟩ : ∃ t, Cur.intOf t2.2.1 t2.2.2 = t := ⟨_, rfl⟩
  obtain ⟨t4, ht4⟩ : ∃ t, Cur.intOf t3.2.1 t3.2.2 = t := ⟨_, rfl⟩
  have hfour : four bs = ((t1.1, t2.1, t3.1, t4.1), t4.2.1, t4.2.2) := by unfold four; simp only [ht1, ht2, ht3, ht4]
  have b1 : ∀ x ∈ t1.2.1, 0 ≤ x ∧ x < 256 := fun x hx => hb x (intOf_sub bs 0 x (by rw [ht1]; exact hx))
  have b2 : ∀ x ∈ t2.2.1, 0 ≤ x ∧ x < 256 := fun x hx => b1 x (intOf_sub t1.2.1 t1.2.2 x (by rw [ht2]; exact hx))
  have b3 : ∀ x ∈ t3.2.1, 0 ≤ x ∧ x < 256 := fun x hx => b2 x (intOf_sub t2.2.1 t2.2.2 x (by rw [ht3]; exact hx))
  have l1 := intOf_len bs 0
  have l2 := intOf_len t1.2.1 t1.2.2
  have l3 := intOf_len t2.2.1 t2.2.2
  rw [ht1] at l1; rw [ht2] at l2; rw [ht3] at l3
  obtain ⟨s1, i1⟩ := int_same 200 (by omega) bs hb (by omega) 0
  obtain ⟨s2, i2⟩ := int_same 200 (by omega) t1.2.1 b1 (by omega) t1.2.2
  obtain ⟨s3, i3⟩ := int_same 200 (by omega) t2.2.1 b2 (by omega) t2.2.2
  obtain ⟨s4, i4⟩ := int_same 200 (by omega) t3.2.1 b3 (by omega) t3.2.2
  rw [ht1] at s1 i1; rw [ht2] at s2 i2; rw [ht3] at s3 i3; rw [ht4] at s4 i4
  obtain ⟨D, hD, hD2⟩ := wr_nat t3.1
  obtain ⟨H, hH, hH2⟩ := wr_nat t4.1
  have o3 := of_f 200 D hD2 (by omega)
  have o4 := of_f 200 H hH2 (by omega)
  rw [← hD] at o3; rw [← hH] at o4
  have iR := implRight 0 t1.1 t2.1 D H hD2 hH2
  have rR := refRight_f 200 t1.1 t2.1 D H hD2 hH2 (by omega)
  obtain ⟨C, rfl⟩ := Int.eq_ofNat_of_zero_le hc.1
  obtain ⟨E, rfl⟩ := Int.eq_ofNat_of_zero_le hd.1
  have oC := of_f 200 C (by omega) (by omega)
  have oE := of_f 200 E (by omega) (by omega)
  have sC := set_f 200 C (by omega) (by omega)
  have sE := set_f 200 E (by omega) (by omega)
  have sD := set_f 200 D hD2 (by omega)
  have sH := set_f 200 H hH2 (by omega)
  have la := bytesI_length a
  have lb := bytesI_length b
  have lc := bytesI_length (wrap64 (C : Int))
  have p1 := putInt_f 200 bs a ha (by omega) (by omega)
  have p2 := putInt_f 200 (bs ++ bytesI a) b hbb (by omega) (by simp; omega)
  have p3 := putInt_f 200 ((bs ++ bytesI a) ++ bytesI b) (wrap64 (C : Int)) (i64_wrap _) (by omega) (by simp; omega)
  have p4 := putInt_f 200 (((bs ++ bytesI a) ++ bytesI b) ++ bytesI (wrap64 (C : Int))) (wrap64 (E : Int)) (i64_wrap _) (by omega) (by simp; omega)
  have f1 := refPutInt_f 200 bs a ha (by omega) (by omega)
  have f2 := refPutInt_f 200 (bs ++ bytesI a) b hbb (by omega) (by simp; omega)
  have f3 := refPutInt_f 200 ((bs ++ bytesI a) ++ bytesI b) (wrap64 (C : Int)) (i64_wrap _) (by omega) (by simp; omega)
  have f4 := refPutInt_f 200 (((bs ++ bytesI a) ++ bytesI b) ++ bytesI (wrap64 (C : Int))) (wrap64 (E : Int)) (i64_wrap _) (by omega) (by simp; omega)
  have hown : berthinglaw21_Own.f 200 a b (C : Int) (E : Int) = some (a, b, ints (lows C), ints (lows E)) := by
    unfold berthinglaw21_Own.f; rw [oC]; rw [Option.bind_some]; rw [oE]; rfl
  have hput : berthingref21_Put.f 200 (strOfNums bs) a b (ints (lows C)) (ints (lows E)) = some (strOfNums ((((bs ++ bytesI a) ++ bytesI b) ++ bytesI (wrap64 (C : Int))) ++ bytesI (wrap64 (E : Int)))) := by
    unfold berthingref21_Put.f
    rw [f1, Option.bind_some, f2, Option.bind_some, sC, Option.bind_some, f3, Option.bind_some, sE, Option.bind_some, f4, Option.bind_some]
  have hone : PRoll.berthinglaw21_one.f 200 = some true := up (f := fun k => PRoll.berthinglaw21_one.f k) (fun k => PRoll.berthinglaw21_one.mono k) one_f (by omega)
  by_cases hg : t4.2.2 = 0 ∧ okR t1.1 t2.1 D H = true
  · refine reads_walk 200 1 a b (C : Int) (E : Int) A0 c0 bs w hC hc0 hb hE hT hl' (okR t1.1 t2.1 D H) (by rw [hfour]; simp only [hD, hH]; exact iR) t1.1 t2.1 (D : Int) (H : Int) (IntKind.i64.wrap ((bs.length : Int) - (t4.2.1.length : Int))) 0
      (by rw [hfour]; simp only [hD, hH]; rw [if_pos hg]) (strOfNums bs) _ _ _ _ rfl _ _ _ _ _ _ _ _ _ _ o3 o4 s1 s2 s3 s4 (okR t1.1 t2.1 D H) rR t1.1 t2.1 (ints (lows D)) (ints (lows H))
      (by rw [if_pos hg, size_str, size_str]) _ _ _ _ p1 p2 p3 p4 _ _ hown _ rfl hput ?_ hone
    unfold berthinglaw21_Like.f
    rw [if_pos rfl, if_pos rfl, sD, Option.bind_some, if_pos rfl, sH, Option.bind_some, if_pos rfl]
  · refine reads_walk 200 1 a b (C : Int) (E : Int) A0 c0 bs w hC hc0 hb hE hT hl' (okR t1.1 t2.1 D H) (by rw [hfour]; simp only [hD, hH]; exact iR) 0 0 0 0 0 11
      (by rw [hfour]; simp only [hD, hH]; rw [if_neg hg]) (strOfNums bs) _ _ _ _ rfl _ _ _ _ _ _ _ _ _ _ o3 o4 s1 s2 s3 s4 (okR t1.1 t2.1 D H) rR 0 0 [] []
      (by rw [if_neg hg]) _ _ _ _ p1 p2 p3 p4 _ _ hown _ rfl hput ?_ hone
    decide +kernel
end Go.Proofs.YtmdjhdnejmegfaaDoor.ReadsLaw
