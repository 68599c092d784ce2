import Derived.Test.YtmdjhdnejmegfaaDoorRollNext
import Derived.Test.YtmdjhdnejmegfaaDoorRoundQuiet
set_option linter.unusedVariables false
set_option linter.unusedSimpArgs false
namespace Go.Proofs.YtmdjhdnejmegfaaDoor.RollNext
open Go Go.BigFrame Go.Proofs Go.Proofs.RoundQuiet Go.RowKit Go.Shelf Go.Proofs.BitsPlain Go.Proofs.YtmdjhdnejmegfaaDoorW.PrintWords Go.Proofs.YtmdjhdnejmegfaaDoor.PRollEnds
attribute [local go_sem] Oper.semAt_some

theorem pop_le (x : Nat) (hx : x < 18446744073709551616) : pop x ≤ 64 := popR_le 64 64 x hx

theorem ones_f (x : Nat) (hx : x < 18446744073709551616) : bits_OnesCount64.f (x : Int) = some ((pop x : Nat) : Int) := by
  unfold bits_OnesCount64.f
  have h3 := ones_raw x hx _ _ _ rfl rfl rfl
  exact congrArg some (ones_end x hx _ _ _ _ h3 rfl rfl rfl)

theorem len_f (x : Nat) (hx : x < 18446744073709551616) : bits_Set_Len.f (x : Int) = some ((pop x : Nat) : Int) := by
  unfold bits_Set_Len.f
  rw [ones_f x hx]; rfl

set_option maxHeartbeats 2000000 in
theorem ones_calls0 (a0 r : Int) (w : World) (h : bits_OnesCount64.f a0 = some r) : Calls Tryd.prog 25 #[.int .u64 a0] w fun e w' => e = .returned (.int .i64 r) ∧ w' = w := by
  unfold bits_OnesCount64.f at h
  obtain rfl := Option.some.inj h
  go_enter Tryd.func25, Tryd.ntmps25
  go_wp2
  go_ret
  exact ⟨by first | rfl | (simp; done) | (simp [*]; done), rfl⟩
theorem ones_calls (x : Nat) (hx : x < 18446744073709551616) (w : World) : Calls Tryd.prog 25 #[.int .u64 x] w fun e w' => e = .returned (.int .i64 ((pop x : Nat) : Int)) ∧ w' = w := ones_calls0 _ _ _ (ones_f x hx)

set_option maxHeartbeats 1000000 in
theorem len_calls (x : Nat) (hx : x < 18446744073709551616) (w : World) : Calls Tryd.prog 12 #[.int .u64 x] w fun e w' => e = .returned (.int .i64 ((pop x : Nat) : Int)) ∧ w' = w := by
  go_enter Tryd.func12, Tryd.ntmps12
  go_wp2_with (go_at_call 25; refine (ones_calls x hx _).mono ?_; rintro e w' ⟨rfl, rfl⟩)
  go_ret
  exact ⟨rfl, rfl⟩

theorem bit_f (n : Nat) : bits_bit.f (n : Int) = some ((bitOf n : Nat) : Int) := by
  unfold bits_bit.f bitOf
  by_cases hn : n < 64
  · rw [if_neg (by omega), if_neg (by omega), if_pos (by omega), if_pos hn]
    exact congrArg some (shl_bit n hn)
  · rw [if_neg (by omega), if_pos (by omega), if_neg hn]; rfl

theorem with_f (o n : Nat) (ho : o < 18446744073709551616) : bits_Set_With.f (o : Int) (n : Int) = some ((o ||| bitOf n : Nat) : Int) := by
  unfold bits_Set_With.f
  rw [bit_f n]
  simp only [Option.bind_some]
  rw [bits_or_u64_nat o _ ho (bitOf_lt n)]

theorem cell_new_l' (W : World) (v : Value) (t : TypeId) : (W.alloc (.cells #[v] t)).cell? ⟨W.heap.size, 0, none⟩ = some v ∧ (W.alloc (.cells #[v] t)).frozen? ⟨W.heap.size, 0, none⟩ = false := by
  have h := World.alloc_heap_new W (.cells #[v] t)
  exact ⟨(blk_cell h 0).trans rfl, blk_frozen h 0⟩
theorem cell_alloc_l' {W : World} {a : Addr} {v : Value} (o : Obj) (h : W.cell? a = some v) : (W.alloc o).cell? a = some v := cell_kept h (World.grownBy_alloc W o none) (fun r e => by cases e)
theorem frozen_alloc_l' {W : World} {a : Addr} {v : Value} (o : Obj) (h : W.cell? a = some v) (hf : W.frozen? a = false) : (W.alloc o).frozen? a = false := (frozen_kept h (World.grownBy_alloc W o none) (fun r e => by cases e)).trans hf

theorem KeepsOthers.drewN_ (W : World) (n : Nat) : KeepsOthers W (W.drewN n) := ⟨Nat.le_refl _, fun _ _ h _ => h⟩

set_option maxRecDepth 100000 in
set_option maxHeartbeats 2000000 in
theorem next_on (W0 F0 : Int) (d h i : Nat) (hd : d < 18446744073709551616) (hh : h < 18446744073709551616) (hi : i < 18446744073709551616) (now : Int) (w : World) (hT : Tab w) (hon : F0 ≤ now) :
    Calls Tryd.prog 9 #[.agg #[.int .i64 W0, .int .i64 F0, .int .u64 d, .int .u64 h], .int .i64 now, .int .u64 i] w fun e w' => e = .returned (.int .u64 ((takes W0 h (lows (less i (d ||| h))) 0 : Nat) : Int)) ∧ Below w.heap.size w w' := by
  have hu27 := Tryd.underlying27
  have h1 := hT.size
  have f22 : Fence.wide.fn 22 := trivial
  have f10 : Fence.wide.fn 10 := trivial
  have f8 : Fence.wide.fn 8 := trivial
  have f23 : Fence.wide.fn 23 := trivial
  have f12 : Fence.wide.fn 12 := trivial
  have f24 : Fence.wide.fn 24 := trivial
  refine (callsIn_wide (n := 5)).1 ?_
  refine callsIn_of_wp_marks Tryd.func9 rfl trivial ?_ rfl
  simp only [Tryd.ntmps9, List.size_toArray, List.length_cons, List.length_nil, Nat.reduceAdd, Nat.reduceSub, Array.replicate_succ, Array.replicate_zero, List.push_toArray, List.append_toArray, List.nil_append, List.cons_append]
  gi_wp2_with (first
    | (gi_at_call 22
       refine (of_calls (roll_Roll_On.calls W0 F0 d h now true _ (by simp [roll_Roll_On.f, hon]))).mono ?_
       rintro e w1 ⟨rfl, hb⟩
       have BK : w1.heap[w.heap.size]? = some (.cells #[.int .i64 W0, .int .i64 F0, .int .u64 d, .int .u64 h] 27 (0, 0)) := blk_below (World.alloc_heap_new w _) hb
       have HB : Below w.heap.size w w1 := below_step ((Below.refl _ w).alloc (Nat.le_refl _) _) hb
       have hT1 : Tab w1 := hT.below h1 HB
       have hc0 : w1.cell? ⟨w.heap.size, 0, none⟩ = some (.int .i64 W0) := (blk_cell BK 0).trans rfl
       have hc1 : w1.cell? ⟨w.heap.size, 1, none⟩ = some (.int .i64 F0) := (blk_cell BK 1).trans rfl
       have hc2 : w1.cell? ⟨w.heap.size, 2, none⟩ = some (.int .u64 d) := (blk_cell BK 2).trans rfl
       have hc3 : w1.cell? ⟨w.heap.size, 3, none⟩ = some (.int .u64 h) := (blk_cell BK 3).trans rfl
       have hf0 := blk_frozen BK 0
       have hf1 := blk_frozen BK 1
       have hf2 := blk_frozen BK 2
       have hf3 := blk_frozen BK 3)
    | (gi_at_call 10
       refine (of_calls (bits_Set_Or.calls d h ((d ||| h : Nat) : Int) _ (by simp only [bits_Set_Or.f]; rw [bits_or_u64_nat d h hd hh]))).mono ?_
       rintro e w' ⟨rfl, ⟨nd, rfl⟩⟩)
    | (gi_at_call 8
       refine (of_calls (bits_Set_Less.calls i ((d ||| h : Nat) : Int) ((less i (d ||| h) : Nat) : Int) _ (by simp only [bits_Set_Less.f]; rw [bits_less i _ hi (or_lt d h hd hh)]))).mono ?_
       rintro e w' ⟨rfl, ⟨nd2, rfl⟩⟩)
    | (gi_at_call 23
       refine (of_calls (all_calls ((less i (d ||| h) : Nat) : Int) _)).mono ?_
       rintro e w' ⟨rfl, rfl⟩))
  have hmx : Tryd.prog.follows .mixedOrders = true := by kernel_rfl
  have hlt : less i (d ||| h) < 18446744073709551616 := less_lt (n := 64) hi
  have hsz : w.heap.size < w1.heap.size := (Array.getElem?_eq_some_iff.1 BK).1
  generalize hW1 : w1.drewN (nd + nd2) = W1
  have hs1 : W1.heap.size = w1.heap.size := by rw [← hW1]; rfl
  have hBw : Below w.heap.size w W1 := by rw [← hW1]; exact ⟨HB.os, HB.tape, HB.output, HB.size, HB.block⟩
  have hB1 : Below w1.heap.size w1 W1 := by rw [← hW1]; exact ⟨rfl, rfl, rfl, Nat.le_refl _, fun _ _ => rfl⟩
  rw [← hs1] at hB1 hsz
  rw [← hs1]
  have hs1a : W1.heap.size ≤ w1.heap.size := Nat.le_of_eq hs1
  clear hs1
  have hs := cell_new_l' W1 (.int .u64 0) 25
  have hb := cell_new_l' (W1.alloc (.cells #[.int .u64 0] 25)) (.int .u64 ((less i (d ||| h) : Nat) : Int)) 25
  rw [World.size_alloc] at hb
  have hB2 : Below W1.heap.size w1 ((W1.alloc (.cells #[.int .u64 0] 25)).alloc (.cells #[.int .u64 ((less i (d ||| h) : Nat) : Int)] 25)) := (hB1.alloc (Nat.le_refl _) _).alloc (by simp) _
  have hT2 : Tab ((W1.alloc (.cells #[.int .u64 0] 25)).alloc (.cells #[.int .u64 ((less i (d ||| h) : Nat) : Int)] 25)) := hT1.below (by omega) hB2
  have h0b : W1.heap.size < ((W1.alloc (.cells #[.int .u64 0] 25)).alloc (.cells #[.int .u64 ((less i (d ||| h) : Nat) : Int)] 25)).heap.size := by simp; omega
  refine wpIn_rangeFunc_ownF rfl (by omega) (gf := 40) (lb := #[.pointer (some ⟨W1.heap.size + 1, 0, none⟩)]) rfl trivial (enters_of Tryd.func40 (by kernel_rfl) rfl)
    (all_stops (5 - 1) (by omega) (W1.heap.size + 1) W1.heap.size (less i (d ||| h)) hlt _ (by simp) (Nat.le_of_lt h0b) (by omega) hb.1 hT2) belowK_t (belowK_b (Nat.le_of_lt h0b)) (Below.refl _ _) (fun _ => rfl)
    (fun pre W => (∃ o, runP W0 h pre 0 = some o ∧ W.cell? ⟨W1.heap.size, 0, none⟩ = some (.int .u64 (o : Int)) ∧ W.frozen? ⟨W1.heap.size, 0, none⟩ = false) ∧ Below W1.heap.size w1 W)
    (fun c pre W => (∃ pre0 x o, c = .exit 0 ∧ pre = pre0 ++ [x] ∧ runP W0 h pre0 0 = some o ∧ W0 ≤ (pop o + pop h : Int) ∧ W.cell? ⟨W1.heap.size, 0, none⟩ = some (.int .u64 (o : Int)) ∧ W.frozen? ⟨W1.heap.size, 0, none⟩ = false) ∧ Below W1.heap.size w1 W)
    (OwnFrom.and (Own.from (fun s A B row hs hg hr => by
      obtain ⟨o, h1, h2, h3⟩ := hs
      exact ⟨o, h1, cell_kept h2 hg hr, (frozen_kept h2 hg hr).trans h3⟩) _) (ownFrom_below (by omega) (Nat.le_of_lt h0b)))
    (fun c => OwnFrom.and (Own.from (fun s A B row hs hg hr => by
      obtain ⟨pre0, x, o, h0, h1, h2, h3, h4, h5⟩ := hs
      exact ⟨pre0, x, o, h0, h1, h2, h3, cell_kept h4 hg hr, (frozen_kept h4 hg hr).trans h5⟩) _) (ownFrom_below (by omega) (Nat.le_of_lt h0b)))
    ⟨⟨0, rfl, cell_alloc_l' _ hs.1, frozen_alloc_l' _ hs.1 hs.2⟩, hB2⟩
    (fun x => { tmps := #[Value.agg #[Value.int .i64 W0, Value.int .i64 F0, Value.int .u64 (d : Int), Value.int .u64 (h : Int)],
          Value.int .i64 now, Value.int .u64 (i : Int), Value.pointer (some ⟨w.heap.size, 0, none⟩),
          undef, undef, Value.int .u64 0, Value.int .u64 ((less i (d ||| h) : Nat) : Int),
          Value.pointer (some ⟨W1.heap.size, 0, none⟩), Value.int .i64 (x : Int),
          Value.agg #[Value.int .i64 W0, Value.int .i64 F0, Value.int .u64 (d : Int), Value.int .u64 (h : Int)],
          Value.int .i64 now, Value.bool true, Value.bool false, Value.int .u64 (i : Int),
          Value.pointer (some ⟨w.heap.size, 2, none⟩), Value.int .u64 (d : Int),
          Value.pointer (some ⟨w.heap.size, 3, none⟩), Value.int .u64 (h : Int),
          Value.int .u64 ((d ||| h : Nat) : Int), Value.int .u64 ((less i (d ||| h) : Nat) : Int),
          Value.int .u64 ((less i (d ||| h) : Nat) : Int),
          Value.func (Fn.func 40) #[] #[Value.pointer (some ⟨W1.heap.size + 1, 0, none⟩)], Value.int .i64 (x : Int), undef,
          undef, undef, undef, undef, undef, undef, undef, undef, undef, undef, undef, undef], defers := [] }) ?assign ?body ?done ?stop
  case assign =>
    intro l x W K hK
    gi_wp2
    exact hK
  case body =>
    rintro l pre x W ⟨⟨o, hr, hc, hf⟩, hB⟩ _
    have ho := runP_lt W0 h pre 0 o (by omega) hr
    have g12 : (Fence.wide.inRound l).fn 12 := trivial
    have g24 : (Fence.wide.inRound l).fn 24 := trivial
    have k0 : W.cell? ⟨w.heap.size, 0, none⟩ = some (.int .i64 W0) := (hB.cell (p := ⟨w.heap.size, 0, none⟩) (by omega)).trans hc0
    have k3 : W.cell? ⟨w.heap.size, 3, none⟩ = some (.int .u64 h) := (hB.cell (p := ⟨w.heap.size, 3, none⟩) (by omega)).trans hc3
    have p1 := pop_le o ho
    have p2 := pop_le h hh
    gi_wp2
    refine wpIn_region_quiet_round l rfl hmx (by kernel_rfl) (by simp) ?_
    repeat (gi_big_quiet_step (first
      | (gi_at_call 12; refine CallsIn.quiet_of_same (of_calls (len_calls o ho _)))
      | (gi_at_call 12; refine CallsIn.quiet_of_same (of_calls (len_calls h hh _)))))
    refine wpQuietIn_nil ?_
    rintro _ ⟨nq, rfl⟩
    have hB' : Below W1.heap.size w1 (W.drewN nq) := ⟨hB.os, hB.tape, hB.output, hB.size, hB.block⟩
    by_cases hw : W0 ≤ ((pop o : Nat) : Int) + ((pop h : Nat) : Int)
    · rw [decide_eq_true hw]
      gi_wp2
      exact ⟨KeepsOthers.drewN_ W nq, ⟨⟨pre, x, o, rfl, rfl, hr, hw, hc, hf⟩, hB'⟩⟩
    · rw [decide_eq_false hw]
      gi_wp2_with (gi_at_call 24; refine (CallsIn.inRound l (of_calls (bits_Set_With.calls (o : Int) (x : Int) ((o ||| bitOf x : Nat) : Int) _ (with_f o x ho)))).mono ?_; rintro e w' ⟨rfl, ⟨nd3, rfl⟩⟩)
      refine ⟨(KeepsOthers.drewN_ W _).trans (KeepsOthers.setCell _ _ _), ?_, ⟨⟨o ||| bitOf x, ?_, ?_, ?_⟩, ?_⟩⟩
      · exact Below.setCell (p := ⟨W1.heap.size, 0, none⟩) (pw_below_drewN (Below.refl _ W) _) (Nat.le_refl _) _
      · rw [runP_snoc, hr]; simp only [Option.bind_some]; rw [if_neg (by omega)]
      · exact World.cell?_setCell_same' _ _ _ (by show (W.cell? _).isSome = true; rw [hc]; rfl)
      · rw [World.frozen?_setCell]; exact hf
      · exact Below.setCell (p := ⟨W1.heap.size, 0, none⟩) (pw_below_drewN hB _) (Nat.le_refl _) _
  case done =>
    rintro D ys W hD rfl ⟨⟨o, hr, hc, hf⟩, hB⟩ hK
    gi_wp2
    refine ⟨by simp, .inl ⟨_, _, rfl, run_takeDeferred hK, ?_⟩⟩
    exact ⟨_, results_tmp rfl _ _ _, by rw [takes_of_run W0 h _ _ _ hr]; rfl, (below_weaken HB (by omega) hB).trans (belowK_b (w := w) (Nat.le_refl _) W D _ _ (by omega) hK rfl rfl)⟩
  case stop =>
    rintro D c pre W hD hpre ⟨⟨pre0, x, o, rfl, rfl, hr, hw, hc, hf⟩, hB⟩ hK
    gi_wp2
    refine ⟨by simp, .inl ⟨_, _, rfl, run_takeDeferred hK, ?_⟩⟩
    exact ⟨_, results_tmp rfl _ _ _, by rw [takes_of_stop W0 h x o hw pre0 _ _ hr hpre]; rfl, (below_weaken HB (by omega) hB).trans (belowK_b (w := w) (Nat.le_refl _) W D _ _ (by omega) hK rfl rfl)⟩

set_option maxHeartbeats 1000000 in
theorem next_off (W0 F0 d h i now : Int) (w : World) (hon : ¬ F0 ≤ now) :
    Calls Tryd.prog 9 #[.agg #[.int .i64 W0, .int .i64 F0, .int .u64 d, .int .u64 h], .int .i64 now, .int .u64 i] w fun e w' => e = .returned (.int .u64 0) ∧ Below w.heap.size w w' := by
  have hu27 := Tryd.underlying27
  go_enter Tryd.func9, Tryd.ntmps9
  go_wp2_with (first
    | (go_at_call 22
       refine (roll_Roll_On.calls W0 F0 d h now false _ (by simp [roll_Roll_On.f]; omega)).mono ?_
       rintro e w1 ⟨rfl, hb⟩
       have HB : Below w.heap.size w w1 := below_step ((Below.refl _ w).alloc (Nat.le_refl _) _) hb))
  go_ret
  exact ⟨rfl, HB⟩

end Go.Proofs.YtmdjhdnejmegfaaDoor.RollNext

namespace Go.Proofs.YtmdjhdnejmegfaaDoor.PRoll
open Go Go.Proofs Go.RowKit Go.Proofs.BitsPlain Go.Proofs.YtmdjhdnejmegfaaDoor.RollNext
/-- (berthing/roll.Roll).Next, as a Lean function. -/
def roll_Roll_Next.f (a0_0 a0_1 a0_2 a0_3 a1 a2 : Int) : Option Int :=
  if a0_1 ≤ a1 then
    (if (0 ≤ a0_2 ∧ a0_2 < 18446744073709551616) ∧ (0 ≤ a0_3 ∧ a0_3 < 18446744073709551616) ∧ (0 ≤ a2 ∧ a2 < 18446744073709551616) then
      some ((takes a0_0 a0_3.toNat (lows (less a2.toNat (a0_2.toNat ||| a0_3.toNat))) 0 : Nat) : Int) else none)
  else some 0
theorem roll_Roll_Next.calls (a0_0 a0_1 a0_2 a0_3 a1 a2 : Int) (r : Int) (w : World) (hT : Tab w) (h : roll_Roll_Next.f a0_0 a0_1 a0_2 a0_3 a1 a2 = some r) :
    Calls Tryd.prog 9 #[.agg #[.int .i64 a0_0, .int .i64 a0_1, .int .u64 a0_2, .int .u64 a0_3], .int .i64 a1, .int .u64 a2] w fun e w' => e = .returned (.int .u64 r) ∧ Below w.heap.size w w' := by
  unfold roll_Roll_Next.f at h
  by_cases hon : a0_1 ≤ a1
  · rw [if_pos hon] at h
    by_cases hr : (0 ≤ a0_2 ∧ a0_2 < 18446744073709551616) ∧ (0 ≤ a0_3 ∧ a0_3 < 18446744073709551616) ∧ (0 ≤ a2 ∧ a2 < 18446744073709551616)
    · rw [if_pos hr] at h
      obtain rfl := Option.some.inj h
      obtain ⟨d, rfl⟩ := Int.eq_ofNat_of_zero_le hr.1.1
      obtain ⟨hh, rfl⟩ := Int.eq_ofNat_of_zero_le hr.2.1.1
      obtain ⟨i, rfl⟩ := Int.eq_ofNat_of_zero_le hr.2.2.1
      simp only [Int.toNat_natCast]
      exact next_on a0_0 a0_1 d hh i (by omega) (by omega) (by omega) a1 w hT hon
    · rw [if_neg hr] at h; simp at h
  · rw [if_neg hon] at h
    obtain rfl := Option.some.inj h
    exact next_off a0_0 a0_1 a0_2 a0_3 a2 a1 w hon
end Go.Proofs.YtmdjhdnejmegfaaDoor.PRoll
