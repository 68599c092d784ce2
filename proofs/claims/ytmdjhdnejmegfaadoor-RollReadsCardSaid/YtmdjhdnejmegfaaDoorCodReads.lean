/- A part of the proof of RollReads (Reads): contracts and plain laws of the reading and laying of one roll. Conditions: those that each theorem states. -/
import Derived.Test.YtmdjhdnejmegfaaDoorCodCurs
import Derived.Test.YtmdjhdnejmegfaaDoorPRollEndsx1
import Derived.Deep.RegionWith
import Derived.Test.YtmdjhdnejmegfaaDoorPRollRx7
import Derived.Test.YtmdjhdnejmegfaaDoorPRollRx5
set_option linter.unusedVariables false
set_option linter.unusedSimpArgs false
namespace Go.Proofs.YtmdjhdnejmegfaaDoor.RollRead
open Go Go.Proofs Go.RowKit Go.Proofs.YtmdjhdnejmegfaaDoorW.PrintWords Go.Proofs.YtmdjhdnejmegfaaDoor.AsErr Go.Proofs.YtmdjhdnejmegfaaDoor.Cur

theorem grpGo_sub : ∀ (bs : List Int) (i : Nat) (u : Int) (x : Int), x ∈ (grpGo bs i u).2.2 → x ∈ bs
  | [], _, _, x, h => by simp [grpGo] at h
  | y :: r, i, u, x, h => by
    unfold grpGo at h
    split at h
    · simp at h
    · split at h
      · exact List.mem_cons_of_mem _ h
      · exact List.mem_cons_of_mem _ (grpGo_sub r _ _ x h)

theorem intOf_sub (bs : List Int) (e : Int) (x : Int) (h : x ∈ (Cur.intOf bs e).2.1) : x ∈ bs := by
  unfold Cur.intOf at h
  split at h
  · exact grpGo_sub _ _ _ _ h
  · exact h

/-- four numbers, one behind the other -/
def four (bs : List Int) : (Int × Int × Int × Int) × List Int × Int :=
  let a := Cur.intOf bs 0
  let b := Cur.intOf a.2.1 a.2.2
  let c := Cur.intOf b.2.1 b.2.2
  let d := Cur.intOf c.2.1 c.2.2
  ((a.1, b.1, c.1, d.1), d.2.1, d.2.2)

theorem CurIs.move {w w' : World} {p : Nat} {bs : List Int} {e : Int} (h : CurIs w p bs e) (hk : ∀ k, k ≤ p → w'.heap[k]? = w.heap[k]?) : CurIs w' p bs e := by
  obtain ⟨A, c, hp, hC, hc, ha⟩ := h
  refine ⟨A, c, (hk p (Nat.le_refl _)).trans hp, ?_, hc, ha⟩
  obtain ⟨h1, h2, h3⟩ := hC
  refine ⟨h1, h2, fun h0 => ?_⟩
  obtain ⟨ad, e', hcs⟩ := h3 h0
  refine ⟨ad, e', fun j x hx => ?_⟩
  obtain ⟨cs, q1, q2, q3⟩ := hcs j x hx
  refine ⟨cs, q1, q2, fun i u hu => ?_⟩
  rw [← q3 i u hu]
  exact World.cell?_of_block (w := w) (hk _ (by rw [Cur.add_block]; exact Nat.le_of_lt (ha ad e')))

theorem CurIs.below {w w' : World} {p : Nat} {bs : List Int} {e : Int} (h : CurIs w p bs e) (hB : Below w.heap.size w w') : CurIs w' p bs e := by
  obtain ⟨A, c, hp, hC, hc, ha⟩ := h
  exact ⟨A, c, blk_below hp hB, Kd.C_below hC hB, hc, ha⟩

/-- where the walk of Read stands: the cursor, the array, the result's cells -/
structure St (w W : World) (p V : Nat) (cs : Array Value) (bs : List Int) (e : Int) : Prop where
  cur : CurIs W p bs e
  arr : W.heap[V]? = some (.cells cs 60 (0, 0))
  below : Below w.heap.size w W
  res : W.heap[w.heap.size]? = some (.cells #[.int .i64 0, .int .i64 0, .int .u64 0, .int .u64 0] 27 (0, 0))
  hp : w.heap.size < p
  hV : p < V

theorem St.step {w W W3 : World} {p V : Nat} {cs cs' : Array Value} {bs bs' : List Int} {e e' : Int} (h : St w W p V cs bs e) (ho : Only p W W3) (hc : CurIs W3 p bs' e') (i : Nat) (v : Value) (hs : cs.setIfInBounds i v = cs') :
    St w (W3.setCell ⟨V, i, none⟩ v) p V cs' bs' e' := by
  have h1 := h.hp
  have h2 := h.hV
  refine ⟨CurIs.move hc (fun k hk => Below.heap_setCell W3 ⟨V, i, none⟩ v k (by show k ≠ V; omega)), blk_put ((ho.block V (by omega)).trans h.arr) i v hs, ?_, ?_, h1, h2⟩
  · exact (h.below.trans (ho.below (by omega))).setCell (p := ⟨V, i, none⟩) (by show w.heap.size ≤ V; omega) v
  · rw [Below.heap_setCell W3 ⟨V, i, none⟩ v _ (by show w.heap.size ≠ V; omega), ho.block _ (by omega)]; exact h.res

set_option maxRecDepth 100000 in
set_option maxHeartbeats 8000000 in
theorem read_good (rr : Bool) (kR : Nat) (A0 : Option Addr) (c0 : Nat) (bs : List Int) (w : World) (hC : Kd.C (Kd.int .u8) w A0 bs.length bs) (hc : bs.length ≤ c0) (hm : bs.length < 140737488355328) (hb : ∀ x ∈ bs, 0 ≤ x ∧ x < 256) (hE : ErrT w)
    (hrr : PRollEnds.roll_Roll_Right.f kR (four bs).1.1 (four bs).1.2.1 (IntKind.u64.wrap (four bs).1.2.2.1) (IntKind.u64.wrap (four bs).1.2.2.2) 64 = some rr)
    (res : Value) (hres : (if (four bs).2.2 = 0 ∧ rr = true then
        .tuple #[.agg #[.int .i64 (four bs).1.1, .int .i64 (four bs).1.2.1, .int .u64 (IntKind.u64.wrap (four bs).1.2.2.1), .int .u64 (IntKind.u64.wrap (four bs).1.2.2.2)], .int .i64 (IntKind.i64.wrap ((bs.length : Int) - ((four bs).2.1.length : Int))), .int .i64 0]
      else .tuple #[.agg #[.int .i64 0, .int .i64 0, .int .u64 0, .int .u64 0], .int .i64 0, .int .i64 11]) = res) :
    Calls Tryd.prog 16 #[.slice A0 bs.length c0] w fun ev w' => ev = .returned res ∧ Below w.heap.size w w' := by
  have hu27 := Tryd.underlying27
  obtain ⟨a, ha⟩ : ∃ a, Cur.intOf bs 0 = a := ⟨_, rfl⟩
  obtain ⟨b, hbb⟩ : ∃ b, Cur.intOf a.2.1 a.2.2 = b := ⟨_, rfl⟩
  obtain ⟨c, hcc⟩ : ∃ c, Cur.intOf b.2.1 b.2.2 = c := ⟨_, rfl⟩
  obtain ⟨d, hdd⟩ : ∃ d, Cur.intOf c.2.1 c.2.2 = d := ⟨_, rfl⟩
  have hfour : four bs = ((a.1, b.1, c.1, d.1), d.2.1, d.2.2) := by unfold four; simp only [ha, hbb, hcc, hdd]
  rw [hfour] at hrr hres
  simp only at hrr hres
  have h1 : ∀ x ∈ a.2.1, 0 ≤ x ∧ x < 256 := fun x hx => hb x (intOf_sub bs 0 x (by rw [ha]; exact hx))
  have h2 : ∀ x ∈ b.2.1, 0 ≤ x ∧ x < 256 := fun x hx => h1 x (intOf_sub a.2.1 a.2.2 x (by rw [hbb]; exact hx))
  have h3 : ∀ x ∈ c.2.1, 0 ≤ x ∧ x < 256 := fun x hx => h2 x (intOf_sub b.2.1 b.2.2 x (by rw [hcc]; exact hx))
  have hC' : Kd.C (Kd.int .u8) (w.alloc (.cells #[.int .i64 0, .int .i64 0, .int .u64 0, .int .u64 0] 27)) A0 bs.length bs := Kd.C_below hC ((Below.refl _ w).alloc (Nat.le_refl _) _)
  go_enter Tryd.func16, Tryd.ntmps16
  go_wp2_with (go_at_call 29; refine (read_calls A0 c0 bs _ hC' hc hm).mono ?_; rintro ev w1 ⟨p, rfl, hp, hcur, hB⟩)
  have hn := blk_new w1 (.cells #[.int .i64 0, .int .i64 0, .int .i64 0, .int .i64 0] 60)
  obtain ⟨V, hV⟩ : ∃ V, w1.heap.size = V := ⟨_, rfl⟩
  obtain ⟨W, hW⟩ : ∃ W, w1.alloc (.cells #[.int .i64 0, .int .i64 0, .int .i64 0, .int .i64 0] 60) = W := ⟨_, rfl⟩
  have hpV : p < V := by obtain ⟨_, _, hp1, _⟩ := hcur; rw [← hV]; exact blk_lt hp1
  have hcW : CurIs W p bs 0 := by rw [← hW]; exact CurIs.below hcur ((Below.refl _ w1).alloc (Nat.le_refl _) _)
  have hBW : Below w.heap.size w W := by
    rw [← hW]; exact (below_step ((Below.refl _ w).alloc (Nat.le_refl _) _) hB).alloc (by have := hB.size; simp at this; omega) _
  have hRW : W.heap[w.heap.size]? = some (.cells #[.int .i64 0, .int .i64 0, .int .u64 0, .int .u64 0] 27 (0, 0)) := by
    rw [← hW]; exact blk_alloc (blk_below (blk_new w _) hB) _
  rw [hV] at hn ⊢
  rw [hW] at hn ⊢
  have hpw : w.heap.size < p := by simp at hp; omega
  have s0 : St w W p V _ bs 0 := ⟨hcW, hn, hBW, hRW, hpw, hpV⟩
  clear hn hcW hBW hRW hcur hB hW hV hp hC'
  refine wp_loop_rounds 5 ?_
  rw [rounds_succ]
  go_wp2_with (go_at_call 30; refine (int_calls p bs 0 W s0.cur hb).mono ?_; rw [ha]; rintro ev wa ⟨rfl, hc0, ho0⟩
               have z0 := (ho0.block V (by have := s0.hV; omega)).trans s0.arr
               have zc0 : wa.cell? ⟨V, 0, none⟩ = some (.int .i64 0) := (blk_cell z0 0).trans rfl
               have zf0 := blk_frozen z0 0)
  have s1 := s0.step ho0 hc0 0 (.int .i64 a.1) (cs' := #[.int .i64 a.1, .int .i64 0, .int .i64 0, .int .i64 0]) rfl
  clear zc0 zf0 z0 ho0 hc0 s0
  generalize wa.setCell ⟨V, 0, none⟩ (.int .i64 a.1) = wa' at s1 ⊢
  rw [rounds_succ]
  go_wp2_with (go_at_call 30; refine (int_calls p a.2.1 a.2.2 wa' s1.cur h1).mono ?_; rw [hbb]; rintro ev wb ⟨rfl, hc1, ho1⟩
               have z1 := (ho1.block V (by have := s1.hV; omega)).trans s1.arr
               have zc1 : wb.cell? ⟨V, 1, none⟩ = some (.int .i64 0) := (blk_cell z1 1).trans rfl
               have zf1 := blk_frozen z1 1)
  have s2 := s1.step ho1 hc1 1 (.int .i64 b.1) (cs' := #[.int .i64 a.1, .int .i64 b.1, .int .i64 0, .int .i64 0]) rfl
  clear zc1 zf1 z1 ho1 hc1 s1
  generalize wb.setCell ⟨V, 1, none⟩ (.int .i64 b.1) = wb' at s2 ⊢
  rw [rounds_succ]
  go_wp2_with (go_at_call 30; refine (int_calls p b.2.1 b.2.2 wb' s2.cur h2).mono ?_; rw [hcc]; rintro ev wc ⟨rfl, hc2, ho2⟩
               have z2 := (ho2.block V (by have := s2.hV; omega)).trans s2.arr
               have zc2 : wc.cell? ⟨V, 2, none⟩ = some (.int .i64 0) := (blk_cell z2 2).trans rfl
               have zf2 := blk_frozen z2 2)
  have s3 := s2.step ho2 hc2 2 (.int .i64 c.1) (cs' := #[.int .i64 a.1, .int .i64 b.1, .int .i64 c.1, .int .i64 0]) rfl
  clear zc2 zf2 z2 ho2 hc2 s2
  generalize wc.setCell ⟨V, 2, none⟩ (.int .i64 c.1) = wc' at s3 ⊢
  rw [rounds_succ]
  go_wp2_with (go_at_call 30; refine (int_calls p c.2.1 c.2.2 wc' s3.cur h3).mono ?_; rw [hdd]; rintro ev wd ⟨rfl, hc3, ho3⟩
               have z3 := (ho3.block V (by have := s3.hV; omega)).trans s3.arr
               have zc3 : wd.cell? ⟨V, 3, none⟩ = some (.int .i64 0) := (blk_cell z3 3).trans rfl
               have zf3 := blk_frozen z3 3)
  have s4 := s3.step ho3 hc3 3 (.int .i64 d.1) (cs' := #[.int .i64 a.1, .int .i64 b.1, .int .i64 c.1, .int .i64 d.1]) rfl
  clear zc3 zf3 z3 ho3 hc3 s3
  generalize wd.setCell ⟨V, 3, none⟩ (.int .i64 d.1) = wd' at s4 ⊢
  rw [rounds_succ]
  have q0 : wd'.cell? ⟨V, 0, none⟩ = some (.int .i64 a.1) := (blk_cell s4.arr 0).trans rfl
  have q1 : wd'.cell? ⟨V, 1, none⟩ = some (.int .i64 b.1) := (blk_cell s4.arr 1).trans rfl
  have q2 : wd'.cell? ⟨V, 2, none⟩ = some (.int .i64 c.1) := (blk_cell s4.arr 2).trans rfl
  have q3 : wd'.cell? ⟨V, 3, none⟩ = some (.int .i64 d.1) := (blk_cell s4.arr 3).trans rfl
  have hlast : ∀ x ∈ d.2.1, 0 ≤ x ∧ x < 256 := fun x hx => h3 x (intOf_sub c.2.1 c.2.2 x (by rw [hdd]; exact hx))
  have nR := blk_new wd' (.cells #[.int .i64 a.1, .int .i64 b.1, .int .u64 (IntKind.u64.wrap c.1), .int .u64 (IntKind.u64.wrap d.1)] 27)
  have cR := CurIs.below s4.cur ((Below.refl _ wd').alloc (Nat.le_refl _) (.cells #[.int .i64 a.1, .int .i64 b.1, .int .u64 (IntKind.u64.wrap c.1), .int .u64 (IntKind.u64.wrap d.1)] 27))
  have bR : Below w.heap.size w (wd'.alloc (.cells #[.int .i64 a.1, .int .i64 b.1, .int .u64 (IntKind.u64.wrap c.1), .int .u64 (IntKind.u64.wrap d.1)] 27)) := s4.below.alloc s4.below.size _
  have rR := blk_alloc s4.res (.cells #[.int .i64 a.1, .int .i64 b.1, .int .u64 (IntKind.u64.wrap c.1), .int .u64 (IntKind.u64.wrap d.1)] 27)
  have hE0 : 0 < w.heap.size := by
    rcases Nat.eq_zero_or_pos w.heap.size with h | h
    · simp [ErrT, World.cell?, h] at hE
    · exact h
  have eR : ErrT (wd'.alloc (.cells #[.int .i64 a.1, .int .i64 b.1, .int .u64 (IntKind.u64.wrap c.1), .int .u64 (IntKind.u64.wrap d.1)] 27)) := (bR.cell (p := ⟨0, 0, none⟩) hE0).trans hE
  obtain ⟨R, hR⟩ : ∃ R, wd'.heap.size = R := ⟨_, rfl⟩
  rw [hR] at nR
  have hsz : w.heap.size < R := by have := s4.below.size; have := s4.hp; have := s4.hV; have := blk_lt s4.arr; omega
  by_cases he : d.2.2 = 0
  · cases rr with
    | false =>
      rw [if_neg (by simp)] at hres
      subst hres
      go_wp2_with (first
        | (go_at_call 31; refine (bad_calls p d.2.1 d.2.2 _ cR eR).mono ?_; rw [he]; rintro ev w5 ⟨rfl, hb5⟩
           have n5 := blk_below nR hb5
           have b5 := below_step bR hb5
           have r5 := blk_below rR hb5
           have m0 : w5.cell? ⟨R, 0, none⟩ = some (.int .i64 a.1) := (blk_cell n5 0).trans rfl
           have m1 : w5.cell? ⟨R, 1, none⟩ = some (.int .i64 b.1) := (blk_cell n5 1).trans rfl
           have m2 : w5.cell? ⟨R, 2, none⟩ = some (.int .u64 (IntKind.u64.wrap c.1)) := (blk_cell n5 2).trans rfl
           have m3 : w5.cell? ⟨R, 3, none⟩ = some (.int .u64 (IntKind.u64.wrap d.1)) := (blk_cell n5 3).trans rfl)
        | (go_at_call 13; refine (PRollEnds.roll_Roll_Right.calls kR a.1 b.1 (IntKind.u64.wrap c.1) (IntKind.u64.wrap d.1) 64 _ _ hrr).mono ?_; rintro ev w6 ⟨rfl, hb6⟩
           have b6 := below_step b5 hb6
           have r6 := blk_below r5 hb6
           have k0 : w6.cell? ⟨w.heap.size, 0, none⟩ = some (.int .i64 0) := (blk_cell r6 0).trans rfl
           have k1 : w6.cell? ⟨w.heap.size, 1, none⟩ = some (.int .i64 0) := (blk_cell r6 1).trans rfl
           have k2 : w6.cell? ⟨w.heap.size, 2, none⟩ = some (.int .u64 0) := (blk_cell r6 2).trans rfl
           have k3 : w6.cell? ⟨w.heap.size, 3, none⟩ = some (.int .u64 0) := (blk_cell r6 3).trans rfl
           have f0 := blk_frozen r6 0
           have f1 := blk_frozen r6 1
           have f2 := blk_frozen r6 2
           have f3 := blk_frozen r6 3))
      have r7 := blk_put (blk_put (blk_put (blk_put r6 0 (.int .i64 0) rfl) 1 (.int .i64 0) rfl) 2 (.int .u64 0) rfl) 3 (.int .u64 0) rfl
      refine bodyPost_ret (results_ctt rfl _ _ w.heap.size 27 _ (0, 0) _ rfl r7 Tryd.underlying27 rfl (by kernel_rfl)) rfl ?_
      exact ⟨rfl, (((b6.setCell (p := ⟨w.heap.size, 0, none⟩) (Nat.le_refl _) _).setCell (p := ⟨w.heap.size, 1, none⟩) (Nat.le_refl _) _).setCell (p := ⟨w.heap.size, 2, none⟩) (Nat.le_refl _) _).setCell (p := ⟨w.heap.size, 3, none⟩) (Nat.le_refl _) _⟩
    | true =>
      rw [if_pos ⟨he, rfl⟩] at hres
      subst hres
      go_wp2_with (first
        | (go_at_call 31; refine (bad_calls p d.2.1 d.2.2 _ cR eR).mono ?_; rw [he]; rintro ev w5 ⟨rfl, hb5⟩
           have n5 := blk_below nR hb5
           have c5 := CurIs.below cR hb5
           have b5 := below_step bR hb5
           have r5 := blk_below rR hb5
           have m0 : w5.cell? ⟨R, 0, none⟩ = some (.int .i64 a.1) := (blk_cell n5 0).trans rfl
           have m1 : w5.cell? ⟨R, 1, none⟩ = some (.int .i64 b.1) := (blk_cell n5 1).trans rfl
           have m2 : w5.cell? ⟨R, 2, none⟩ = some (.int .u64 (IntKind.u64.wrap c.1)) := (blk_cell n5 2).trans rfl
           have m3 : w5.cell? ⟨R, 3, none⟩ = some (.int .u64 (IntKind.u64.wrap d.1)) := (blk_cell n5 3).trans rfl)
        | (go_at_call 13; refine (PRollEnds.roll_Roll_Right.calls kR a.1 b.1 (IntKind.u64.wrap c.1) (IntKind.u64.wrap d.1) 64 _ _ hrr).mono ?_; rintro ev w6 ⟨rfl, hb6⟩
           have b6 := below_step b5 hb6
           have c6 := CurIs.below c5 hb6
           have n6 := blk_below n5 hb6
           have m60 : w6.cell? ⟨R, 0, none⟩ = some (.int .i64 a.1) := (blk_cell n6 0).trans rfl
           have m61 : w6.cell? ⟨R, 1, none⟩ = some (.int .i64 b.1) := (blk_cell n6 1).trans rfl
           have m62 : w6.cell? ⟨R, 2, none⟩ = some (.int .u64 (IntKind.u64.wrap c.1)) := (blk_cell n6 2).trans rfl
           have m63 : w6.cell? ⟨R, 3, none⟩ = some (.int .u64 (IntKind.u64.wrap d.1)) := (blk_cell n6 3).trans rfl
           have r6 := blk_below r5 hb6
           have k0 : w6.cell? ⟨w.heap.size, 0, none⟩ = some (.int .i64 0) := (blk_cell r6 0).trans rfl
           have k1 : w6.cell? ⟨w.heap.size, 1, none⟩ = some (.int .i64 0) := (blk_cell r6 1).trans rfl
           have k2 : w6.cell? ⟨w.heap.size, 2, none⟩ = some (.int .u64 0) := (blk_cell r6 2).trans rfl
           have k3 : w6.cell? ⟨w.heap.size, 3, none⟩ = some (.int .u64 0) := (blk_cell r6 3).trans rfl
           have f0 := blk_frozen r6 0
           have f1 := blk_frozen r6 1
           have f2 := blk_frozen r6 2
           have f3 := blk_frozen r6 3))
      go_region_with (first | (go_at_call 32; refine (rest_calls p d.2.1 d.2.2 _ (by exact c6)).mono ?_; rintro ev w7 ⟨rfl, hw7⟩; rw [hw7]; clear hw7))
      all_goals (try go_wp2)
      all_goals
        have r7 := blk_put (blk_put (blk_put (blk_put (blk_drew r6) 0 (.int .i64 a.1) rfl) 1 (.int .i64 b.1) rfl) 2 (.int .u64 (IntKind.u64.wrap c.1)) rfl) 3 (.int .u64 (IntKind.u64.wrap d.1)) rfl
        refine bodyPost_ret (results_ctt rfl _ _ w.heap.size 27 _ (0, 0) _ rfl r7 Tryd.underlying27 rfl (by kernel_rfl)) rfl ?_
        exact ⟨rfl, ((((below_drew1 b6).setCell (p := ⟨w.heap.size, 0, none⟩) (Nat.le_refl _) _).setCell (p := ⟨w.heap.size, 1, none⟩) (Nat.le_refl _) _).setCell (p := ⟨w.heap.size, 2, none⟩) (Nat.le_refl _) _).setCell (p := ⟨w.heap.size, 3, none⟩) (Nat.le_refl _) _⟩
  · rw [if_neg (by simp [he])] at hres
    subst hres
    go_wp2_with (go_at_call 31; refine (bad_calls p d.2.1 d.2.2 _ cR eR).mono ?_; rintro ev w5 ⟨rfl, hb5⟩
                 have b6 := below_step bR hb5
                 have r6 := blk_below rR hb5
                 have k0 : w5.cell? ⟨w.heap.size, 0, none⟩ = some (.int .i64 0) := (blk_cell r6 0).trans rfl
                 have k1 : w5.cell? ⟨w.heap.size, 1, none⟩ = some (.int .i64 0) := (blk_cell r6 1).trans rfl
                 have k2 : w5.cell? ⟨w.heap.size, 2, none⟩ = some (.int .u64 0) := (blk_cell r6 2).trans rfl
                 have k3 : w5.cell? ⟨w.heap.size, 3, none⟩ = some (.int .u64 0) := (blk_cell r6 3).trans rfl
                 have f0 := blk_frozen r6 0
                 have f1 := blk_frozen r6 1
                 have f2 := blk_frozen r6 2
                 have f3 := blk_frozen r6 3
                 have hne : (d.2.2 != 0) = true := by simp [he])
    have r7 := blk_put (blk_put (blk_put (blk_put r6 0 (.int .i64 0) rfl) 1 (.int .i64 0) rfl) 2 (.int .u64 0) rfl) 3 (.int .u64 0) rfl
    refine bodyPost_ret (results_ctt rfl _ _ w.heap.size 27 _ (0, 0) _ rfl r7 Tryd.underlying27 rfl (by kernel_rfl)) rfl ?_
    exact ⟨rfl, (((b6.setCell (p := ⟨w.heap.size, 0, none⟩) (Nat.le_refl _) _).setCell (p := ⟨w.heap.size, 1, none⟩) (Nat.le_refl _) _).setCell (p := ⟨w.heap.size, 2, none⟩) (Nat.le_refl _) _).setCell (p := ⟨w.heap.size, 3, none⟩) (Nat.le_refl _) _⟩
end Go.Proofs.YtmdjhdnejmegfaaDoor.RollRead

set_option linter.unusedVariables false
set_option linter.unusedSimpArgs false
namespace Go.Proofs.YtmdjhdnejmegfaaDoor.RollPut
open Go Go.Proofs Go.RowKit Go.Proofs.YtmdjhdnejmegfaaDoorW.PrintWords Go.Proofs.YtmdjhdnejmegfaaDoor.PRollR

set_option maxRecDepth 100000 in
set_option maxHeartbeats 4000000 in
theorem numbers_calls (a b c d : Int) (w : World) :
    Calls Tryd.prog 36 #[.agg #[.int .i64 a, .int .i64 b, .int .u64 c, .int .u64 d]] w fun ev w' => ev = .returned (.agg #[.int .i64 a, .int .i64 b, .int .i64 (wrap64 c), .int .i64 (wrap64 d)]) ∧ Below w.heap.size w w' := by
  have hu27 := Tryd.underlying27
  have hu60 := Tryd.underlying60
  go_enter Tryd.func36, Tryd.ntmps36
  go_wp2
  have r1 : ((w.alloc (.cells #[.int .i64 a, .int .i64 b, .int .u64 c, .int .u64 d] 27)).alloc (.cells #[.int .i64 a, .int .i64 b, .int .i64 (wrap64 c), .int .i64 (wrap64 d)] 60)).heap[w.heap.size + 1]? = some (.cells #[.int .i64 a, .int .i64 b, .int .i64 (wrap64 c), .int .i64 (wrap64 d)] 60 (0, 0)) := by
    have := blk_new (w.alloc (.cells #[.int .i64 a, .int .i64 b, .int .u64 c, .int .u64 d] 27)) (.cells #[.int .i64 a, .int .i64 b, .int .i64 (wrap64 c), .int .i64 (wrap64 d)] 60)
    rwa [World.size_alloc] at this
  refine bodyPost_ret (results_cell_row rfl _ _ (w.heap.size + 1) 60 _ (0, 0) _ rfl r1 Tryd.underlying60 rfl (by kernel_rfl)) rfl ?_
  exact ⟨rfl, ((Below.refl _ w).alloc (Nat.le_refl _) _).alloc (by simp) _⟩

theorem idx0 (a b c d : Int) (w : World) : (Instr.index 60 (.agg #[.int .i64 a, .int .i64 b, .int .i64 c, .int .i64 d]) (.int .i64 0)).run Tryd.prog w = .ok (.int .i64 a) w := by kernel_rfl
theorem idx1 (a b c d : Int) (w : World) : (Instr.index 60 (.agg #[.int .i64 a, .int .i64 b, .int .i64 c, .int .i64 d]) (.int .i64 1)).run Tryd.prog w = .ok (.int .i64 b) w := by kernel_rfl
theorem idx2 (a b c d : Int) (w : World) : (Instr.index 60 (.agg #[.int .i64 a, .int .i64 b, .int .i64 c, .int .i64 d]) (.int .i64 2)).run Tryd.prog w = .ok (.int .i64 c) w := by kernel_rfl
theorem idx3 (a b c d : Int) (w : World) : (Instr.index 60 (.agg #[.int .i64 a, .int .i64 b, .int .i64 c, .int .i64 d]) (.int .i64 3)).run Tryd.prog w = .ok (.int .i64 d) w := by kernel_rfl

set_option maxRecDepth 100000 in
set_option maxHeartbeats 8000000 in
/-- (berthing/roll).Put: the four numbers, one behind the other. -/
theorem put_calls (k : Nat) (A0 : Option Addr) (c0 : Nat) (bs : List Int) (a b c d : Int) (r1 r2 r3 r4 : List Int) (w : World) (hC : Kd.C (Kd.int .u8) w A0 bs.length bs) (hc : bs.length ≤ c0)
    (h1 : coding_PutInt.f k bs a = some r1) (h2 : coding_PutInt.f k r1 b = some r2) (h3 : coding_PutInt.f k r2 (wrap64 c) = some r3) (h4 : coding_PutInt.f k r3 (wrap64 d) = some r4) :
    Calls Tryd.prog 18 #[.slice A0 bs.length c0, .agg #[.int .i64 a, .int .i64 b, .int .u64 c, .int .u64 d]] w fun ev w' => ∃ v, ev = .returned v ∧ Kd.R (Kd.int .u8) 5 w' w.heap.size (fun _ => True) v r4 ∧ Below w.heap.size w w' := by
  have hu27 := Tryd.underlying27
  have hu60 := Tryd.underlying60
  go_enter Tryd.func18, Tryd.ntmps18
  go_wp2_with (go_at_call 36; refine (numbers_calls a b c d _).mono ?_; rintro ev w1 ⟨rfl, hb1⟩)
  have i0 := idx0 a b (wrap64 c) (wrap64 d)
  have i1 := idx1 a b (wrap64 c) (wrap64 d)
  have i2 := idx2 a b (wrap64 c) (wrap64 d)
  have i3 := idx3 a b (wrap64 c) (wrap64 d)
  have B1 : Below w.heap.size w w1 := below_step ((Below.refl _ w).alloc (Nat.le_refl _) _) hb1
  have C1 := Kd.C_below hC B1
  refine wp_loop_rounds 5 ?_
  rw [rounds_succ]
  go_wp2_with (go_at_call 37; refine (coding_PutInt.calls k A0 c0 bs a r1 _ C1 hc h1).mono ?_; rintro ev w2 ⟨v2, rfl, R2, hb2⟩
               obtain ⟨A2, c2, rfl, l2, C2⟩ := Kd.R_reads R2)
  rw [rounds_succ]
  go_wp2_with (go_at_call 37; refine (coding_PutInt.calls k A2 c2 r1 b r2 _ C2 l2 h2).mono ?_; rintro ev w3 ⟨v3, rfl, R3, hb3⟩
               obtain ⟨A3, c3, rfl, l3, C3⟩ := Kd.R_reads R3)
  rw [rounds_succ]
  go_wp2_with (go_at_call 37; refine (coding_PutInt.calls k A3 c3 r2 (wrap64 c) r3 _ C3 l3 h3).mono ?_; rintro ev w4 ⟨v4, rfl, R4, hb4⟩
               obtain ⟨A4, c4, rfl, l4, C4⟩ := Kd.R_reads R4)
  rw [rounds_succ]
  go_wp2_with (go_at_call 37; refine (coding_PutInt.calls k A4 c4 r3 (wrap64 d) r4 _ C4 l4 h4).mono ?_; rintro ev w5 ⟨v5, rfl, R5, hb5⟩
               obtain ⟨A5, c5, rfl, l5, C5⟩ := Kd.R_reads R5)
  rw [rounds_succ]
  go_wp2
  go_ret
  have B2 := below_step B1 hb2
  have B3 := below_step B2 hb3
  have B4 := below_step B3 hb4
  exact ⟨_, rfl, Kd.R_lower R5 B4.size, below_step B4 hb5⟩
end Go.Proofs.YtmdjhdnejmegfaaDoor.RollPut

set_option linter.unusedVariables false
set_option linter.unusedSimpArgs false
namespace Go.Proofs.YtmdjhdnejmegfaaDoor.RefRead
open Go Go.Proofs Go.RowKit Go.Proofs.YtmdjhdnejmegfaaDoorW.PrintWords Go.Proofs.YtmdjhdnejmegfaaDoor.PRollR

open Go.Proofs.YtmdjhdnejmegfaaDoorW.PrintLast Go.Proofs.YtmdjhdnejmegfaaDoorW.PrintMore
def rr.T7 : Bool × List (List Nat × List Nat) := (true, [([], []), ([0], [0]), ([], []), ([2], [2]), ([], []), ([4], [4]), ([5], [5]), ([6], [6]), ([], []), ([8], [8]), ([9], [9]), ([10, 7], [10]), ([1, 3, 7, 11], [1, 3, 7, 11]), ([], []), ([13, 12, 11, 0, 1, 2, 3, 4, 5, 6, 7, 8, 9, 10, 11, 12, 13], [12, 13])])
def rr.B7 : List Nat := [0, 1, 0, 4, 0, 16, 48, 112, 0, 256, 768, 2032, 4095, 0, 16383]
theorem rr.tab7 : rtab .any (opsOf Tryd.f17 7) = rr.T7 := by kernel_rfl
theorem rr.bits7 : waitsOk rr.T7.2 rr.B7 = true := by kernel_rfl

structure St2 (w W : World) (C V : Nat) (cs : Array Value) (s : ByteArray) (e : Int) : Prop where
  cur : W.heap[C]? = some (.cells #[.string s, .int .i64 e] 64 (0, 0))
  arr : W.heap[V]? = some (.cells cs 60 (0, 0))
  below : Below w.heap.size w W
  res : W.heap[w.heap.size]? = some (.cells #[.int .i64 0, .int .i64 0, .slice none 0 0, .slice none 0 0] 44 (0, 0))
  hC : w.heap.size < C
  hV : C < V

theorem St2.step {w W W3 : World} {C V : Nat} {cs cs' : Array Value} {s s' : ByteArray} {e e' : Int} (h : St2 w W C V cs s e) (hb : Below W.heap.size W W3) (i : Nat) (v : Value) (hs : cs.setIfInBounds i v = cs') :
    St2 w (((W3.setCell ⟨C, 0, none⟩ (.string s')).setCell ⟨C, 1, none⟩ (.int .i64 e')).setCell ⟨V, i, none⟩ v) C V cs' s' e' := by
  have h1 := h.hC
  have h2 := h.hV
  have hc := blk_put (blk_put (blk_below h.cur hb) 0 (.string s') (cs' := #[.string s', .int .i64 e]) rfl) 1 (.int .i64 e') (cs' := #[.string s', .int .i64 e']) rfl
  refine ⟨blk_far hc (by show C ≠ V; omega) v, ?_, ?_, ?_, h1, h2⟩
  · exact blk_put (blk_far (blk_far (blk_below h.arr hb) (by show V ≠ C; omega) _) (by show V ≠ C; omega) _) i v hs
  · exact (((below_step h.below hb).setCell (p := ⟨C, 0, none⟩) (Nat.le_of_lt h1) _).setCell (p := ⟨C, 1, none⟩) (Nat.le_of_lt h1) _).setCell (p := ⟨V, i, none⟩) (by show w.heap.size ≤ V; omega) _
  · exact blk_far (blk_far (blk_far (blk_below h.res hb) (by show w.heap.size ≠ C; omega) _) (by show w.heap.size ≠ C; omega) _) (by show w.heap.size ≠ V; omega) _

theorem blk_alloc_eq (w : World) (o : Obj) (k : Nat) (h : k < w.heap.size) : (w.alloc o).heap[k]? = w.heap[k]? := by
  show (w.heap.push o)[k]? = _
  rw [Array.getElem?_push, if_neg (by omega)]
theorem set4_far (w : World) (R : Nat) (a b c d : Value) (k : Nat) (h : k ≠ R) : ((((w.setCell ⟨R, 0, none⟩ a).setCell ⟨R, 1, none⟩ b).setCell ⟨R, 2, none⟩ c).setCell ⟨R, 3, none⟩ d).heap[k]? = w.heap[k]? := by
  rw [Below.heap_setCell _ ⟨R, 3, none⟩ d k h, Below.heap_setCell _ ⟨R, 2, none⟩ c k h, Below.heap_setCell _ ⟨R, 1, none⟩ b k h, Below.heap_setCell _ ⟨R, 0, none⟩ a k h]

theorem two_rows {w w5 w6 Wf : World} {v3 v4 : Value} {l3 l4 : List Int} {b3 b4 : Nat} (R3 : Kd.R (Kd.int .i64) 3 w5 b3 (fun _ => True) v3 l3) (R4 : Kd.R (Kd.int .i64) 3 w6 b4 (fun _ => True) v4 l4)
    (hb3 : w.heap.size ≤ b3) (h54 : w5.heap.size ≤ b4) (hb4 : w.heap.size ≤ b4) (m3 : ∀ k, b3 ≤ k → k < w5.heap.size → Wf.heap[k]? = w5.heap[k]?) (m4 : ∀ k, b4 ≤ k → k < w6.heap.size → Wf.heap[k]? = w6.heap[k]?) :
    Kd.R (Kd.int .i64) 3 Wf w.heap.size (fun k_ => some k_ ≠ v4.ownBlock) v3 l3 ∧ Kd.R (Kd.int .i64) 3 Wf w.heap.size (fun k_ => some k_ ≠ v3.ownBlock) v4 l4 := by
  have g3 : ∀ k, v3.ownBlock = some k → k < w5.heap.size := fun k hk => own_lt (Kd.R_own R3).choose_spec k hk
  have g4 : ∀ k, v4.ownBlock = some k → b4 ≤ k := fun k hk => own_base (Kd.R_own R4).choose_spec k hk
  refine ⟨Kd.R_lower (Kd.R_mono (Kd.R_move (Kd.R_bound R3) (fun k hk => m3 k hk.2.1 hk.2.2.1)) (fun k hk he => ?_)) hb3, Kd.R_lower (Kd.R_mono (Kd.R_move (Kd.R_bound R4) (fun k hk => m4 k hk.2.1 hk.2.2.1)) (fun k hk he => ?_)) hb4⟩
  · have := g4 k he.symm; have := hk.2.2.1; omega
  · have := g3 k he.symm; have := hk.2.1; omega

structure Fin2 (w W : World) (C R : Nat) (s4 : ByteArray) (e4 v1 v2 : Int) (A3 A4 : Option Addr) (c3 c4 : Nat) (l3 l4 : List Int) : Prop where
  cur : W.heap[C]? = some (.cells #[.string s4, .int .i64 e4] 64 (0, 0))
  val : W.heap[R]? = some (.cells #[.int .i64 v1, .int .i64 v2, .slice A3 l3.length c3, .slice A4 l4.length c4] 44 (0, 0))
  res : W.heap[w.heap.size]? = some (.cells #[.int .i64 0, .int .i64 0, .slice none 0 0, .slice none 0 0] 44 (0, 0))
  below : Below w.heap.size w W
  r3 : Kd.R (Kd.int .i64) 3 W w.heap.size (fun k_ => some k_ ≠ (Value.slice A4 l4.length c4).ownBlock) (.slice A3 l3.length c3) l3
  r4 : Kd.R (Kd.int .i64) 3 W w.heap.size (fun k_ => some k_ ≠ (Value.slice A3 l3.length c3).ownBlock) (.slice A4 l4.length c4) l4
  hC : w.heap.size < C
  hR : w.heap.size < R

def Res (k : Nat) (b : ByteArray) (w : World) (s4 : ByteArray) (e4 v1 v2 : Int) (l3 l4 : List Int) (rr : Bool) (ev : Ending) (w' : World) : Prop :=
  ∃ v2_ v3_ : Value, ev = .returned (.tuple #[.agg #[.int .i64 (if e4 = 0 ∧ rr = true then v1 else 0), .int .i64 (if e4 = 0 ∧ rr = true then v2 else 0), v2_, v3_], .int .i64 (if e4 = 0 ∧ rr = true then IntKind.i64.wrap ((b.size : Int) - (s4.size : Int)) else 0), .int .i64 (if e4 = 0 ∧ rr = true then 0 else 11)]) ∧
    Kd.R (Kd.int .i64) 3 w' w.heap.size (fun k_ => some k_ ≠ (v3_ : Value).ownBlock) v2_ (if e4 = 0 ∧ rr = true then l3 else []) ∧ Kd.R (Kd.int .i64) 3 w' w.heap.size (fun k_ => some k_ ≠ (v2_ : Value).ownBlock) v3_ (if e4 = 0 ∧ rr = true then l4 else []) ∧ Below w.heap.size w w'

set_option maxRecDepth 100000 in
set_option maxHeartbeats 16000000 in
theorem ref_read (k : Nat) (b : ByteArray) (s1 s2 s3 s4 : ByteArray) (e1 e2 e3 e4 v1 v2 v3 v4 : Int) (w : World)
    (l3 l4 : List Int) (hl3 : berthingref07_Of.f k (IntKind.u64.wrap v3) = some l3) (hl4 : berthingref07_Of.f k (IntKind.u64.wrap v4) = some l4)
    (h1 : berthingref02_Cursor_Int.f k b 0 = some (s1, e1, v1)) (h2 : berthingref02_Cursor_Int.f k s1 e1 = some (s2, e2, v2))
    (h3 : berthingref02_Cursor_Int.f k s2 e2 = some (s3, e3, v3)) (h4 : berthingref02_Cursor_Int.f k s3 e3 = some (s4, e4, v4))
    (okr : Bool) (hrr : berthingref21_Roll_Right.f k v1 v2 l3 l4 64 = some okr) :
    Calls Tryd.prog 17 #[.string b] w (Res k b w s4 e4 v1 v2 l3 l4 okr) := by
  have hu64 := Tryd.underlying64
  have hu60 := Tryd.underlying60
  have hu44 := Tryd.underlying44
  go_enter Tryd.func17, Tryd.ntmps17
  go_wp2
  obtain ⟨C, hC⟩ : ∃ C, w.heap.size + 1 = C := ⟨_, rfl⟩
  obtain ⟨V, hV⟩ : ∃ V, w.heap.size + 1 + 1 = V := ⟨_, rfl⟩
  obtain ⟨W, hW⟩ : ∃ W, ((w.alloc (.cells #[.int .i64 0, .int .i64 0, .slice none 0 0, .slice none 0 0] 44)).alloc (.cells #[.string b, .int .i64 0] 64)).alloc (.cells #[.int .i64 0, .int .i64 0, .int .i64 0, .int .i64 0] 60) = W := ⟨_, rfl⟩
  have S0 : St2 w W C V #[.int .i64 0, .int .i64 0, .int .i64 0, .int .i64 0] b 0 := by
    have q1 := blk_new (w.alloc (.cells #[.int .i64 0, .int .i64 0, .slice none 0 0, .slice none 0 0] 44)) (.cells #[.string b, .int .i64 0] 64)
    have q2 := blk_new ((w.alloc (.cells #[.int .i64 0, .int .i64 0, .slice none 0 0, .slice none 0 0] 44)).alloc (.cells #[.string b, .int .i64 0] 64)) (.cells #[.int .i64 0, .int .i64 0, .int .i64 0, .int .i64 0] 60)
    simp only [World.size_alloc] at q1 q2
    rw [← hW, ← hC, ← hV]
    exact ⟨blk_alloc q1 _, q2, (((Below.refl _ w).alloc (Nat.le_refl _) _).alloc (by simp) _).alloc (by simp; omega) _, blk_alloc (blk_alloc (blk_new w _) _) _, by omega, by omega⟩
  rw [hV, hC, hW]
  clear hV hC hW
  refine wp_loop_rounds 5 ?_
  rw [rounds_succ]
  have a00 : W.cell? ⟨C, 0, none⟩ = some (.string b) := (blk_cell S0.cur 0).trans rfl
  have a10 : W.cell? ⟨C, 1, none⟩ = some (.int .i64 0) := (blk_cell S0.cur 1).trans rfl
  go_wp2_with (go_at_call 33; refine (berthingref02_Cursor_Int.calls k b 0 s1 e1 v1 _ h1).mono ?_; rintro ev wa ⟨rfl, hb0⟩
               have z0 := blk_below S0.cur hb0
               have y0 := blk_below S0.arr hb0
               have z00 : wa.cell? ⟨C, 0, none⟩ = some (.string b) := (blk_cell z0 0).trans rfl
               have z10 : wa.cell? ⟨C, 1, none⟩ = some (.int .i64 0) := (blk_cell z0 1).trans rfl
               have zf00 := blk_frozen z0 0
               have zf10 := blk_frozen z0 1
               have y00 : wa.cell? ⟨V, 0, none⟩ = some (.int .i64 0) := (blk_cell y0 0).trans rfl
               have yf0 := blk_frozen y0 0
               have hne0 : ¬ V = C := by have := S0.hV; omega)
  have S1 := S0.step (s' := s1) (e' := e1) hb0 0 (.int .i64 v1) (cs' := #[.int .i64 v1, .int .i64 0, .int .i64 0, .int .i64 0]) rfl
  clear a00 a10 z0 y0 z00 z10 zf00 zf10 y00 yf0 hne0 hb0 S0
  generalize ((wa.setCell ⟨C, 0, none⟩ (.string s1)).setCell ⟨C, 1, none⟩ (.int .i64 e1)).setCell ⟨V, 0, none⟩ (.int .i64 v1) = wa' at S1 ⊢
  rw [rounds_succ]
  have a01 : wa'.cell? ⟨C, 0, none⟩ = some (.string s1) := (blk_cell S1.cur 0).trans rfl
  have a11 : wa'.cell? ⟨C, 1, none⟩ = some (.int .i64 e1) := (blk_cell S1.cur 1).trans rfl
  go_wp2_with (go_at_call 33; refine (berthingref02_Cursor_Int.calls k s1 e1 s2 e2 v2 _ h2).mono ?_; rintro ev wb ⟨rfl, hb1⟩
               have z1 := blk_below S1.cur hb1
               have y1 := blk_below S1.arr hb1
               have z01 : wb.cell? ⟨C, 0, none⟩ = some (.string s1) := (blk_cell z1 0).trans rfl
               have z11 : wb.cell? ⟨C, 1, none⟩ = some (.int .i64 e1) := (blk_cell z1 1).trans rfl
               have zf01 := blk_frozen z1 0
               have zf11 := blk_frozen z1 1
               have y01 : wb.cell? ⟨V, 1, none⟩ = some (.int .i64 0) := (blk_cell y1 1).trans rfl
               have yf1 := blk_frozen y1 1
               have hne1 : ¬ V = C := by have := S1.hV; omega)
  have S2 := S1.step (s' := s2) (e' := e2) hb1 1 (.int .i64 v2) (cs' := #[.int .i64 v1, .int .i64 v2, .int .i64 0, .int .i64 0]) rfl
  clear a01 a11 z1 y1 z01 z11 zf01 zf11 y01 yf1 hne1 hb1 S1
  generalize ((wb.setCell ⟨C, 0, none⟩ (.string s2)).setCell ⟨C, 1, none⟩ (.int .i64 e2)).setCell ⟨V, 1, none⟩ (.int .i64 v2) = wb' at S2 ⊢
  rw [rounds_succ]
  have a02 : wb'.cell? ⟨C, 0, none⟩ = some (.string s2) := (blk_cell S2.cur 0).trans rfl
  have a12 : wb'.cell? ⟨C, 1, none⟩ = some (.int .i64 e2) := (blk_cell S2.cur 1).trans rfl
  go_wp2_with (go_at_call 33; refine (berthingref02_Cursor_Int.calls k s2 e2 s3 e3 v3 _ h3).mono ?_; rintro ev wc ⟨rfl, hb2⟩
               have z2 := blk_below S2.cur hb2
               have y2 := blk_below S2.arr hb2
               have z02 : wc.cell? ⟨C, 0, none⟩ = some (.string s2) := (blk_cell z2 0).trans rfl
               have z12 : wc.cell? ⟨C, 1, none⟩ = some (.int .i64 e2) := (blk_cell z2 1).trans rfl
               have zf02 := blk_frozen z2 0
               have zf12 := blk_frozen z2 1
               have y02 : wc.cell? ⟨V, 2, none⟩ = some (.int .i64 0) := (blk_cell y2 2).trans rfl
               have yf2 := blk_frozen y2 2
               have hne2 : ¬ V = C := by have := S2.hV; omega)
  have S3 := S2.step (s' := s3) (e' := e3) hb2 2 (.int .i64 v3) (cs' := #[.int .i64 v1, .int .i64 v2, .int .i64 v3, .int .i64 0]) rfl
  clear a02 a12 z2 y2 z02 z12 zf02 zf12 y02 yf2 hne2 hb2 S2
  generalize ((wc.setCell ⟨C, 0, none⟩ (.string s3)).setCell ⟨C, 1, none⟩ (.int .i64 e3)).setCell ⟨V, 2, none⟩ (.int .i64 v3) = wc' at S3 ⊢
  rw [rounds_succ]
  have a03 : wc'.cell? ⟨C, 0, none⟩ = some (.string s3) := (blk_cell S3.cur 0).trans rfl
  have a13 : wc'.cell? ⟨C, 1, none⟩ = some (.int .i64 e3) := (blk_cell S3.cur 1).trans rfl
  go_wp2_with (go_at_call 33; refine (berthingref02_Cursor_Int.calls k s3 e3 s4 e4 v4 _ h4).mono ?_; rintro ev wd ⟨rfl, hb3⟩
               have z3 := blk_below S3.cur hb3
               have y3 := blk_below S3.arr hb3
               have z03 : wd.cell? ⟨C, 0, none⟩ = some (.string s3) := (blk_cell z3 0).trans rfl
               have z13 : wd.cell? ⟨C, 1, none⟩ = some (.int .i64 e3) := (blk_cell z3 1).trans rfl
               have zf03 := blk_frozen z3 0
               have zf13 := blk_frozen z3 1
               have y03 : wd.cell? ⟨V, 3, none⟩ = some (.int .i64 0) := (blk_cell y3 3).trans rfl
               have yf3 := blk_frozen y3 3
               have hne3 : ¬ V = C := by have := S3.hV; omega)
  have S4 := S3.step (s' := s4) (e' := e4) hb3 3 (.int .i64 v4) (cs' := #[.int .i64 v1, .int .i64 v2, .int .i64 v3, .int .i64 v4]) rfl
  clear a03 a13 z3 y3 z03 z13 zf03 zf13 y03 yf3 hne3 hb3 S3
  generalize ((wd.setCell ⟨C, 0, none⟩ (.string s4)).setCell ⟨C, 1, none⟩ (.int .i64 e4)).setCell ⟨V, 3, none⟩ (.int .i64 v4) = wd' at S4 ⊢
  rw [rounds_succ]
  have q0 : wd'.cell? ⟨V, 0, none⟩ = some (.int .i64 v1) := (blk_cell S4.arr 0).trans rfl
  have q1 : wd'.cell? ⟨V, 1, none⟩ = some (.int .i64 v2) := (blk_cell S4.arr 1).trans rfl
  have q2 : wd'.cell? ⟨V, 2, none⟩ = some (.int .i64 v3) := (blk_cell S4.arr 2).trans rfl
  have q3 : wd'.cell? ⟨V, 3, none⟩ = some (.int .i64 v4) := (blk_cell S4.arr 3).trans rfl
  go_wp2
  rename_i K0 hK0
  have TAIL : ∀ (W5 : World) (R : Nat) (A3 A4 : Option Addr) (c3 c4 : Nat), Fin2 w W5 C R s4 e4 v1 v2 A3 A4 c3 c4 l3 l4 → K0 ({ tmps := #[.string b, undef, .pointer (some ⟨w.heap.size, 0, none⟩), .int .i64 0, .int .i64 0, .pointer (some ⟨C, 0, none⟩), .pointer (some ⟨V, 0, none⟩), .int .i64 4, .pointer (some ⟨R, 0, none⟩), .string b, .agg #[.string b, .int .i64 0], .int .i64 4, .bool false, .int .i64 3, .int .i64 4, .tuple #[.agg #[.string s4, .int .i64 e4], .int .i64 v4], .int .i64 3, .agg #[.string s3, .int .i64 e3], .tuple #[.agg #[.string s4, .int .i64 e4], .int .i64 v4], .agg #[.string s4, .int .i64 e4], .int .i64 v4, .pointer (some ⟨V, 3, none⟩), .pointer (some ⟨V, 0, none⟩), .int .i64 v1, .pointer (some ⟨V, 1, none⟩), .int .i64 v2, .pointer (some ⟨V, 2, none⟩), .int .i64 v3, .int .u64 (IntKind.u64.wrap v3), .slice A3 l3.length c3, .pointer (some ⟨V, 3, none⟩), .int .i64 v4, .int .u64 (IntKind.u64.wrap v4), .slice A4 l4.length c4, .agg #[.int .i64 v1, .int .i64 v2, .slice A3 l3.length c3, .slice A4 l4.length c4], undef, undef, undef, undef, undef, undef, undef, undef, undef, undef, undef, undef, undef, undef, undef, undef], defers := [] } : Act) W5 := by
    intro W5 R A3 A4 c3 c4 F
    refine hK0 _ _ ?_
    have cE : W5.cell? ⟨C, 1, none⟩ = some (.int .i64 e4) := (blk_cell F.cur 1).trans rfl
    have cS : W5.cell? ⟨C, 0, none⟩ = some (.string s4) := (blk_cell F.cur 0).trans rfl
    have m0 : W5.cell? ⟨R, 0, none⟩ = some (.int .i64 v1) := (blk_cell F.val 0).trans rfl
    have m1 : W5.cell? ⟨R, 1, none⟩ = some (.int .i64 v2) := (blk_cell F.val 1).trans rfl
    have m2 : W5.cell? ⟨R, 2, none⟩ = some (.slice A3 l3.length c3) := (blk_cell F.val 2).trans rfl
    have m3 : W5.cell? ⟨R, 3, none⟩ = some (.slice A4 l4.length c4) := (blk_cell F.val 3).trans rfl
    obtain ⟨le3, C3⟩ := (Kd.R_reads' F.r3).2
    obtain ⟨le4, C4⟩ := (Kd.R_reads' F.r4).2
    have B5 := F.below
    have k5 := F.res
    clear hK0
    by_cases he : e4 = 0
    · have hE := Aside0.mk he
      have q5 : (e4 != 0) = false := by simp [he]
      clear he
      cases okr with
      | false =>
        go_wp2_with (go_at_call 35; refine (berthingref21_Roll_Right.calls k v1 v2 A3 c3 l3 A4 c4 l4 64 false _ C3 le3 C4 le4 hrr).mono ?_; rintro ev w7 ⟨rfl, hb7⟩
                     have k7 := blk_below k5 hb7
                     have b7 := below_step B5 hb7
                     have k0 : w7.cell? ⟨w.heap.size, 0, none⟩ = some (.int .i64 0) := (blk_cell k7 0).trans rfl
                     have k1 : w7.cell? ⟨w.heap.size, 1, none⟩ = some (.int .i64 0) := (blk_cell k7 1).trans rfl
                     have k2 : w7.cell? ⟨w.heap.size, 2, none⟩ = some (.slice none 0 0) := (blk_cell k7 2).trans rfl
                     have k3 : w7.cell? ⟨w.heap.size, 3, none⟩ = some (.slice none 0 0) := (blk_cell k7 3).trans rfl
                     have f0 := blk_frozen k7 0
                     have f1 := blk_frozen k7 1
                     have f2 := blk_frozen k7 2
                     have f3 := blk_frozen k7 3)
        have r7 := blk_put (blk_put (blk_put (blk_put k7 0 (.int .i64 0) rfl) 1 (.int .i64 0) rfl) 2 (.slice none 0 0) rfl) 3 (.slice none 0 0) rfl
        refine bodyPost_ret (results_ctt rfl _ _ w.heap.size 44 _ (0, 0) _ rfl r7 Tryd.underlying44 rfl (by kernel_rfl)) rfl ?_
        have hc : ¬ (e4 = 0 ∧ false = true) := fun h => by cases h.2
        unfold Res
        simp only [if_neg hc]
        exact ⟨_, _, rfl, Kd.R_nil _ _ _ _ _, Kd.R_nil _ _ _ _ _, (((b7.setCell (p := ⟨w.heap.size, 0, none⟩) (Nat.le_refl _) _).setCell (p := ⟨w.heap.size, 1, none⟩) (Nat.le_refl _) _).setCell (p := ⟨w.heap.size, 2, none⟩) (Nat.le_refl _) _).setCell (p := ⟨w.heap.size, 3, none⟩) (Nat.le_refl _) _⟩
      | true =>
        go_wp2_with (go_at_call 35; refine (berthingref21_Roll_Right.calls k v1 v2 A3 c3 l3 A4 c4 l4 64 true _ C3 le3 C4 le4 hrr).mono ?_; rintro ev w7 ⟨rfl, hb7⟩
                     have k7 := blk_below k5 hb7
                     have n7 := blk_below F.val hb7
                     have u0 : w7.cell? ⟨R, 0, none⟩ = some (.int .i64 v1) := (blk_cell n7 0).trans rfl
                     have u1 : w7.cell? ⟨R, 1, none⟩ = some (.int .i64 v2) := (blk_cell n7 1).trans rfl
                     have u2 : w7.cell? ⟨R, 2, none⟩ = some (.slice A3 l3.length c3) := (blk_cell n7 2).trans rfl
                     have u3 : w7.cell? ⟨R, 3, none⟩ = some (.slice A4 l4.length c4) := (blk_cell n7 3).trans rfl
                     have uc : w7.cell? ⟨C, 0, none⟩ = some (.string s4) := (blk_cell (blk_below F.cur hb7) 0).trans rfl
                     have b7 := below_step B5 hb7
                     have k0 : w7.cell? ⟨w.heap.size, 0, none⟩ = some (.int .i64 0) := (blk_cell k7 0).trans rfl
                     have k1 : w7.cell? ⟨w.heap.size, 1, none⟩ = some (.int .i64 0) := (blk_cell k7 1).trans rfl
                     have k2 : w7.cell? ⟨w.heap.size, 2, none⟩ = some (.slice none 0 0) := (blk_cell k7 2).trans rfl
                     have k3 : w7.cell? ⟨w.heap.size, 3, none⟩ = some (.slice none 0 0) := (blk_cell k7 3).trans rfl
                     have f0 := blk_frozen k7 0
                     have f1 := blk_frozen k7 1
                     have f2 := blk_frozen k7 2
                     have f3 := blk_frozen k7 3)
        have hne1 : ¬ C = w.heap.size := Nat.ne_of_gt F.hC
        have hne2 : ¬ w.heap.size = C := Nat.ne_of_lt F.hC
        have hne3 : ¬ R = w.heap.size := Nat.ne_of_gt F.hR
        have hne4 : ¬ w.heap.size = R := Nat.ne_of_lt F.hR
        go_region_held3 (fun w' => w'.cell? ⟨R, 0, none⟩ = some (.int .i64 v1) ∧ w'.cell? ⟨R, 1, none⟩ = some (.int .i64 v2) ∧ w'.cell? ⟨R, 2, none⟩ = some (.slice A3 l3.length c3) ∧ w'.cell? ⟨R, 3, none⟩ = some (.slice A4 l4.length c4) ∧ w'.cell? ⟨C, 0, none⟩ = some (.string s4)) (go_keep) (fail)
        all_goals (try go_wp2)
        all_goals
          have p0 := k7
          have p1 := blk_put p0 0 (.int .i64 v1) rfl
          have p2 := blk_put p1 1 (.int .i64 v2) rfl
          have p3 := blk_put p2 2 (.slice A3 l3.length c3) rfl
          have r7 := blk_put p3 3 (.slice A4 l4.length c4) rfl
          refine bodyPost_ret (results_ctt rfl _ _ w.heap.size 44 _ (0, 0) _ rfl (blk_drew r7) Tryd.underlying44 rfl (by kernel_rfl)) rfl ?_
          unfold Res
          simp only [hE.out, eq_self_iff_true, and_self, if_true]
          have u3 := Kd.R_below F.r3 hb7
          have u4 := Kd.R_below F.r4 hb7
          have ht : ∀ q, q ∈ 3 :: (Kd.int .i64).E → q ≠ 44 := by intro q hq; simp [Kd.int, Kd.scalar] at hq; omega
          exact ⟨.slice A3 l3.length c3, .slice A4 l4.length c4, rfl, Kd.R_drew (Kd.R_set (Kd.R_set (Kd.R_set (Kd.R_set u3 p0 ht 0 _) p1 ht 1 _) p2 ht 2 _) p3 ht 3 (.slice A4 l4.length c4)), Kd.R_drew (Kd.R_set (Kd.R_set (Kd.R_set (Kd.R_set u4 p0 ht 0 _) p1 ht 1 _) p2 ht 2 _) p3 ht 3 (.slice A4 l4.length c4)), below_drew1 ((((b7.setCell (p := ⟨w.heap.size, 0, none⟩) (Nat.le_refl _) _).setCell (p := ⟨w.heap.size, 1, none⟩) (Nat.le_refl _) _).setCell (p := ⟨w.heap.size, 2, none⟩) (Nat.le_refl _) _).setCell (p := ⟨w.heap.size, 3, none⟩) (Nat.le_refl _) _)⟩
    · have q5 : (e4 != 0) = true := by simp [he]
      have hE := Aside0.mk he
      clear he
      have k0 : W5.cell? ⟨w.heap.size, 0, none⟩ = some (.int .i64 0) := (blk_cell k5 0).trans rfl
      have k1 : W5.cell? ⟨w.heap.size, 1, none⟩ = some (.int .i64 0) := (blk_cell k5 1).trans rfl
      have k2 : W5.cell? ⟨w.heap.size, 2, none⟩ = some (.slice none 0 0) := (blk_cell k5 2).trans rfl
      have k3 : W5.cell? ⟨w.heap.size, 3, none⟩ = some (.slice none 0 0) := (blk_cell k5 3).trans rfl
      have f0 := blk_frozen k5 0
      have f1 := blk_frozen k5 1
      have f2 := blk_frozen k5 2
      have f3 := blk_frozen k5 3
      go_wp2
      have r7 := blk_put (blk_put (blk_put (blk_put k5 0 (.int .i64 0) rfl) 1 (.int .i64 0) rfl) 2 (.slice none 0 0) rfl) 3 (.slice none 0 0) rfl
      refine bodyPost_ret (results_ctt rfl _ _ w.heap.size 44 _ (0, 0) _ rfl r7 Tryd.underlying44 rfl (by kernel_rfl)) rfl ?_
      have hc : ¬ (e4 = 0 ∧ okr = true) := fun h => hE.out h.1
      unfold Res
      simp only [if_neg hc]
      exact ⟨_, _, rfl, Kd.R_nil _ _ _ _ _, Kd.R_nil _ _ _ _ _, (((B5.setCell (p := ⟨w.heap.size, 0, none⟩) (Nat.le_refl _) _).setCell (p := ⟨w.heap.size, 1, none⟩) (Nat.le_refl _) _).setCell (p := ⟨w.heap.size, 2, none⟩) (Nat.le_refl _) _).setCell (p := ⟨w.heap.size, 3, none⟩) (Nat.le_refl _) _⟩

  refine start_ (n := 15) (S := fun w' => w'.cell? ⟨V, 0, none⟩ = some (.int .i64 v1) ∧ w'.cell? ⟨V, 1, none⟩ = some (.int .i64 v2) ∧ w'.cell? ⟨V, 2, none⟩ = some (.int .i64 v3) ∧ w'.cell? ⟨V, 3, none⟩ = some (.int .i64 v4)) (ds := []) #[false, false, false, false, false, false, false, false, false, false, false, false, false, false, false] (by kernel_rfl) rfl rfl ⟨q0, q1, q2, q3⟩ (fun hHeld => ?_); refine with_tabW rr.tab7 rr.bits7 (fun HT_ HW_ => ?_)
  refine pure_ (i := 0) (N := some 22) (v := ?_) (a' := ?_) #[true, false, false, false, false, false, false, false, false, false, false, false, false, false, false] rfl rfl (any_of HT_.out (by kernel_rfl)) (fun _ _ _ h => h) (Or.inl ⟨by rfl, ?_⟩) ?_ ?_
  rotate_left
  · intro w'
    go_simp
    with_reducible rfl
  rotate_left
  · simp only [Act.put, List.setIfInBounds_toArray, List.set_cons_zero, List.set_cons_succ, i64_w, i32_w]
    rfl
  refine pure_ (i := 2) (N := some 24) (v := ?_) (a' := ?_) #[true, false, true, false, false, false, false, false, false, false, false, false, false, false, false] rfl rfl (any_of HT_.out (by kernel_rfl)) (fun _ _ _ h => h) (Or.inl ⟨by rfl, ?_⟩) ?_ ?_
  rotate_left
  · intro w'
    go_simp
    with_reducible rfl
  rotate_left
  · simp only [Act.put, List.setIfInBounds_toArray, List.set_cons_zero, List.set_cons_succ, i64_w, i32_w]
    rfl
  refine pure_ (i := 4) (N := some 26) (v := ?_) (a' := ?_) #[true, false, true, false, true, false, false, false, false, false, false, false, false, false, false] rfl rfl (any_of HT_.out (by kernel_rfl)) (fun _ _ _ h => h) (Or.inl ⟨by rfl, ?_⟩) ?_ ?_
  rotate_left
  · intro w'
    go_simp
    with_reducible rfl
  rotate_left
  · simp only [Act.put, List.setIfInBounds_toArray, List.set_cons_zero, List.set_cons_succ, i64_w, i32_w]
    rfl
  refine pure_ (i := 8) (N := some 30) (v := ?_) (a' := ?_) #[true, false, true, false, true, false, false, false, true, false, false, false, false, false, false] rfl rfl (any_of HT_.out (by kernel_rfl)) (fun _ _ _ h => h) (Or.inl ⟨by rfl, ?_⟩) ?_ ?_
  rotate_left
  · intro w'
    go_simp
    with_reducible rfl
  rotate_left
  · simp only [Act.put, List.setIfInBounds_toArray, List.set_cons_zero, List.set_cons_succ, i64_w, i32_w]
    rfl
  refine take_ (i := 1) (N := some 23) (v := ?_) (a' := ?_) #[true, true, true, false, true, false, false, false, true, false, false, false, false, false, false] rfl rfl (take_ofW HT_.out HW_.out (by kernel_rfl)) (fun _ _ _ h => h) (Or.inl ⟨by rfl, ?_⟩) hHeld ?_ ?_
  rotate_left
  · rintro w' ⟨s0, s1, s2, s3⟩
    go_simp
    with_reducible rfl
  rotate_left
  · simp only [Act.put, List.setIfInBounds_toArray, List.set_cons_zero, List.set_cons_succ, i64_w, i32_w]
    rfl
  refine take_ (i := 3) (N := some 25) (v := ?_) (a' := ?_) #[true, true, true, true, true, false, false, false, true, false, false, false, false, false, false] rfl rfl (take_ofW HT_.out HW_.out (by kernel_rfl)) (fun _ _ _ h => h) (Or.inl ⟨by rfl, ?_⟩) hHeld ?_ ?_
  rotate_left
  · rintro w' ⟨s0, s1, s2, s3⟩
    go_simp
    with_reducible rfl
  rotate_left
  · simp only [Act.put, List.setIfInBounds_toArray, List.set_cons_zero, List.set_cons_succ, i64_w, i32_w]
    rfl
  refine take_ (i := 5) (N := some 27) (v := ?_) (a' := ?_) #[true, true, true, true, true, true, false, false, true, false, false, false, false, false, false] rfl rfl (take_ofW HT_.out HW_.out (by kernel_rfl)) (fun _ _ _ h => h) (Or.inl ⟨by rfl, ?_⟩) hHeld ?_ ?_
  rotate_left
  · rintro w' ⟨s0, s1, s2, s3⟩
    go_simp
    with_reducible rfl
  rotate_left
  · simp only [Act.put, List.setIfInBounds_toArray, List.set_cons_zero, List.set_cons_succ, i64_w, i32_w]
    rfl
  refine take_ (i := 9) (N := some 31) (v := ?_) (a' := ?_) #[true, true, true, true, true, true, false, false, true, true, false, false, false, false, false] rfl rfl (take_ofW HT_.out HW_.out (by kernel_rfl)) (fun _ _ _ h => h) (Or.inl ⟨by rfl, ?_⟩) hHeld ?_ ?_
  rotate_left
  · rintro w' ⟨s0, s1, s2, s3⟩
    go_simp
    with_reducible rfl
  rotate_left
  · simp only [Act.put, List.setIfInBounds_toArray, List.set_cons_zero, List.set_cons_succ, i64_w, i32_w]
    rfl
  refine pure_ (i := 6) (N := some 28) (v := ?_) (a' := ?_) #[true, true, true, true, true, true, true, false, true, true, false, false, false, false, false] rfl rfl (any_of HT_.out (by kernel_rfl)) (fun _ _ _ h => h) (Or.inl ⟨by rfl, ?_⟩) ?_ ?_
  rotate_left
  · intro w'
    go_simp
    with_reducible rfl
  rotate_left
  · simp only [Act.put, List.setIfInBounds_toArray, List.set_cons_zero, List.set_cons_succ, i64_w, i32_w]
    rfl
  refine pure_ (i := 10) (N := some 32) (v := ?_) (a' := ?_) #[true, true, true, true, true, true, true, false, true, true, true, false, false, false, false] rfl rfl (any_of HT_.out (by kernel_rfl)) (fun _ _ _ h => h) (Or.inl ⟨by rfl, ?_⟩) ?_ ?_
  rotate_left
  · intro w'
    go_simp
    with_reducible rfl
  rotate_left
  · simp only [Act.put, List.setIfInBounds_toArray, List.set_cons_zero, List.set_cons_succ, i64_w, i32_w]
    rfl
  have X := blk_drew S4.arr
  refine two_ (i := 7) (j := 13) (Ni := some 29) (Nj := some 8) #[true, true, true, true, true, true, true, true, true, true, true, false, false, false, false] #[true, true, true, true, true, true, true, false, true, true, true, false, false, true, false] rfl rfl rfl rfl (two_of HT_.out (by kernel_rfl)) (by decide) (by decide) (fun K hK => ?_) (fun K hK => ?_)
  · skip
    refine goes_ Tryd.func34 (by kernel_rfl) rfl #[.int .u64 (IntKind.u64.wrap v3)] (by rfl) rfl rfl (by (try simp only [List.map_toArray, List.map_cons, List.map_nil]); first | done | rfl | (simp only [List.length_drop, List.length_take]; rfl)) ?_
    with_reducible refine (berthingref07_Of.calls k (IntKind.u64.wrap v3) l3 _ hl3).mono ?_
    rintro e w5 ⟨o3, rfl, R3, hb5⟩
    obtain ⟨A3, c3, rfl, le3, C3⟩ := Kd.R_reads R3
    refine ⟨_, rfl, ?_⟩
    have X' := blk_below X hb5
    refine hK.out _ _ ⟨(blk_cell X' 0).trans rfl, (blk_cell X' 1).trans rfl, (blk_cell X' 2).trans rfl, (blk_cell X' 3).trans rfl⟩ (fun hHeld => ?_)
    clear hK K
    refine norm_ (a' := ?_) ?_ ?_
    rotate_left
    · show Act.put _ (some 29) _ = _
      simp only [Act.put, List.setIfInBounds_toArray, List.set_cons_zero, List.set_cons_succ, i64_w, i32_w]
      rfl
    refine two_ (i := 11) (j := 13) (Ni := some 33) (Nj := some 8) #[true, true, true, true, true, true, true, true, true, true, true, true, false, false, false] #[true, true, true, true, true, true, true, true, true, true, true, false, false, true, false] rfl rfl rfl rfl (two_of HT_.out (by kernel_rfl)) (by decide) (by decide) (fun K hK => ?_) (fun K hK => ?_)
    · skip
      refine goes_ Tryd.func34 (by kernel_rfl) rfl #[.int .u64 (IntKind.u64.wrap v4)] (by rfl) rfl rfl (by (try simp only [List.map_toArray, List.map_cons, List.map_nil]); first | done | rfl | (simp only [List.length_drop, List.length_take]; rfl)) ?_
      with_reducible refine (berthingref07_Of.calls k (IntKind.u64.wrap v4) l4 _ hl4).mono ?_
      rintro e w6 ⟨o4, rfl, R4, hb6⟩
      obtain ⟨A4, c4, rfl, le4, C4⟩ := Kd.R_reads R4
      refine ⟨_, rfl, ?_⟩
      have X'' := blk_below X' hb6
      refine hK.out _ _ ⟨(blk_cell X'' 0).trans rfl, (blk_cell X'' 1).trans rfl, (blk_cell X'' 2).trans rfl, (blk_cell X'' 3).trans rfl⟩ (fun hHeld => ?_)
      clear hK K
      refine norm_ (a' := ?_) ?_ ?_
      rotate_left
      · show Act.put _ (some 33) _ = _
        simp only [Act.put, List.setIfInBounds_toArray, List.set_cons_zero, List.set_cons_succ, i64_w, i32_w]
        rfl
      refine pure_ (i := 12) (N := some 34) (v := ?_) (a' := ?_) #[true, true, true, true, true, true, true, true, true, true, true, true, true, false, false] rfl rfl (any_of HT_.out (by kernel_rfl)) (fun _ _ _ h => h) (Or.inl ⟨by rfl, ?_⟩) ?_ ?_
      rotate_left
      · intro w'
        go_simp
        with_reducible rfl
      rotate_left
      · simp only [Act.put, List.setIfInBounds_toArray, List.set_cons_zero, List.set_cons_succ, i64_w, i32_w]
        rfl
      refine one_ (i := 13) (N := some 8) #[true, true, true, true, true, true, true, true, true, true, true, true, true, true, false] rfl rfl (one_of HT_.out (by kernel_rfl)) (by decide) (fun K hK => ?_)
      refine value_ rfl rfl (by go_simp; exact ⟨rfl, rfl⟩) ?_
      have Z := blk_new w6 (.cells #[.int .i64 0, .int .i64 0, .slice none 0 0, .slice none 0 0] 44)
      have hZV := blk_lt X''
      have X''' := blk_alloc X'' (.cells #[.int .i64 0, .int .i64 0, .slice none 0 0, .slice none 0 0] 44)
      refine hK.out _ _ ⟨(blk_cell X''' 0).trans rfl, (blk_cell X''' 1).trans rfl, (blk_cell X''' 2).trans rfl, (blk_cell X''' 3).trans rfl⟩ (fun hHeld => ?_)
      clear hK K
      refine norm_ (a' := ?_) ?_ ?_
      rotate_left
      · show Act.put _ (some 8) _ = _
        simp only [Act.put, List.setIfInBounds_toArray, List.set_cons_zero, List.set_cons_succ, i64_w, i32_w]
        rfl
      have g0 := (blk_cell Z 0).trans rfl
      have g1 := (blk_cell Z 1).trans rfl
      have g2 := (blk_cell Z 2).trans rfl
      have g3 := (blk_cell Z 3).trans rfl
      have gf0 := blk_frozen Z 0
      have gf1 := blk_frozen Z 1
      have gf2 := blk_frozen Z 2
      have gf3 := blk_frozen Z 3
      refine one_ (i := 14) (N := none) #[true, true, true, true, true, true, true, true, true, true, true, true, true, true, true] rfl rfl (one_of HT_.out (by kernel_rfl)) (by decide) (fun K hK => ?_)
      refine skip_ rfl rfl (by go_simp; rfl) ?_
      have Xe := blk_alloc X'' (.cells #[.int .i64 v1, .int .i64 v2, .slice A3 l3.length c3, .slice A4 l4.length c4] 44)
      have Ze := blk_new w6 (.cells #[.int .i64 v1, .int .i64 v2, .slice A3 l3.length c3, .slice A4 l4.length c4] 44)
      have hsz5 := hb5.size
      have hsz6 := hb6.size
      have hdz : wd'.drew.heap.size = wd'.heap.size := rfl
      have BF := ((below_step (below_step (below_drew1 (Below.refl _ wd')) hb5) hb6)).alloc (by omega) (.cells #[.int .i64 v1, .int .i64 v2, .slice A3 l3.length c3, .slice A4 l4.length c4] 44)
      refine hK.out _ _ ⟨(blk_cell Xe 0).trans rfl, (blk_cell Xe 1).trans rfl, (blk_cell Xe 2).trans rfl, (blk_cell Xe 3).trans rfl⟩ (fun hHeld => ?_)
      clear hK K
      refine done_ (done_of HT_.out (by kernel_rfl)) ?_
      have hvz := blk_lt S4.arr
      have hvz2 := S4.hV
      have hvz3 := S4.hC
      obtain ⟨r3, r4⟩ := two_rows (w := w) R3 R4 (by (try simp only [World.size_alloc]); omega) (by (try simp only [World.size_alloc]); omega) (by (try simp only [World.size_alloc]); omega) (fun k _ hk => (blk_alloc_eq _ _ k (by have := hb6.size; omega)).trans (hb6.block k hk)) (fun k _ hk => blk_alloc_eq _ _ k hk)
      exact TAIL _ _ A3 A4 c3 c4 ⟨blk_below S4.cur BF, Ze, blk_below S4.res BF, below_step S4.below BF, r3, r4, S4.hC, by omega⟩
    · skip
      refine value_ rfl rfl (by go_simp; exact ⟨rfl, rfl⟩) ?_
      have Z := blk_new w5 (.cells #[.int .i64 0, .int .i64 0, .slice none 0 0, .slice none 0 0] 44)
      have hZV := blk_lt X'
      have X'' := blk_alloc X' (.cells #[.int .i64 0, .int .i64 0, .slice none 0 0, .slice none 0 0] 44)
      refine hK.out _ _ ⟨(blk_cell X'' 0).trans rfl, (blk_cell X'' 1).trans rfl, (blk_cell X'' 2).trans rfl, (blk_cell X'' 3).trans rfl⟩ (fun hHeld => ?_)
      clear hK K
      refine norm_ (a' := ?_) ?_ ?_
      rotate_left
      · show Act.put _ (some 8) _ = _
        simp only [Act.put, List.setIfInBounds_toArray, List.set_cons_zero, List.set_cons_succ, i64_w, i32_w]
        rfl
      refine one_ (i := 11) (N := some 33) #[true, true, true, true, true, true, true, true, true, true, true, true, false, true, false] rfl rfl (one_of HT_.out (by kernel_rfl)) (by decide) (fun K hK => ?_)
      refine goes_ Tryd.func34 (by kernel_rfl) rfl #[.int .u64 (IntKind.u64.wrap v4)] (by rfl) rfl rfl (by (try simp only [List.map_toArray, List.map_cons, List.map_nil]); first | done | rfl | (simp only [List.length_drop, List.length_take]; rfl)) ?_
      with_reducible refine (berthingref07_Of.calls k (IntKind.u64.wrap v4) l4 _ hl4).mono ?_
      rintro e w6 ⟨o4, rfl, R4, hb6⟩
      obtain ⟨A4, c4, rfl, le4, C4⟩ := Kd.R_reads R4
      refine ⟨_, rfl, ?_⟩
      have X''' := blk_below X'' hb6
      have Z' := blk_below Z hb6
      refine hK.out _ _ ⟨(blk_cell X''' 0).trans rfl, (blk_cell X''' 1).trans rfl, (blk_cell X''' 2).trans rfl, (blk_cell X''' 3).trans rfl⟩ (fun hHeld => ?_)
      clear hK K
      refine norm_ (a' := ?_) ?_ ?_
      rotate_left
      · show Act.put _ (some 33) _ = _
        simp only [Act.put, List.setIfInBounds_toArray, List.set_cons_zero, List.set_cons_succ, i64_w, i32_w]
        rfl
      refine pure_ (i := 12) (N := some 34) (v := ?_) (a' := ?_) #[true, true, true, true, true, true, true, true, true, true, true, true, true, true, false] rfl rfl (any_of HT_.out (by kernel_rfl)) (fun _ _ _ h => h) (Or.inl ⟨by rfl, ?_⟩) ?_ ?_
      rotate_left
      · intro w'
        go_simp
        with_reducible rfl
      rotate_left
      · simp only [Act.put, List.setIfInBounds_toArray, List.set_cons_zero, List.set_cons_succ, i64_w, i32_w]
        rfl
      have g0 := (blk_cell Z' 0).trans rfl
      have g1 := (blk_cell Z' 1).trans rfl
      have g2 := (blk_cell Z' 2).trans rfl
      have g3 := (blk_cell Z' 3).trans rfl
      have gf0 := blk_frozen Z' 0
      have gf1 := blk_frozen Z' 1
      have gf2 := blk_frozen Z' 2
      have gf3 := blk_frozen Z' 3
      refine one_ (i := 14) (N := none) #[true, true, true, true, true, true, true, true, true, true, true, true, true, true, true] rfl rfl (one_of HT_.out (by kernel_rfl)) (by decide) (fun K hK => ?_)
      refine skip_ rfl rfl (by go_simp; rfl) ?_
      have Xe := (blk_far (blk_far (blk_far (blk_far X''' (p := ⟨w5.heap.size, 0, none⟩) (by exact Nat.ne_of_lt hZV) (.int .i64 v1)) (p := ⟨w5.heap.size, 1, none⟩) (by exact Nat.ne_of_lt hZV) (.int .i64 v2)) (p := ⟨w5.heap.size, 2, none⟩) (by exact Nat.ne_of_lt hZV) (.slice A3 l3.length c3)) (p := ⟨w5.heap.size, 3, none⟩) (by exact Nat.ne_of_lt hZV) (.slice A4 l4.length c4))
      have Ze := blk_put (blk_put (blk_put (blk_put Z' 0 (.int .i64 v1) rfl) 1 (.int .i64 v2) rfl) 2 (.slice A3 l3.length c3) rfl) 3 (.slice A4 l4.length c4) rfl
      have hsz5 := hb5.size
      have hsz6 := hb6.size
      try simp only [World.size_alloc] at hsz5
      try simp only [World.size_alloc] at hsz6
      have hdz : wd'.drew.heap.size = wd'.heap.size := rfl
      have BF := ((((below_step ((below_step (below_drew1 (Below.refl _ wd')) hb5).alloc (by omega) _) hb6).setCell (p := ⟨w5.heap.size, 0, none⟩) (by show wd'.heap.size ≤ w5.heap.size; omega) (.int .i64 v1)).setCell (p := ⟨w5.heap.size, 1, none⟩) (by show wd'.heap.size ≤ w5.heap.size; omega) (.int .i64 v2)).setCell (p := ⟨w5.heap.size, 2, none⟩) (by show wd'.heap.size ≤ w5.heap.size; omega) (.slice A3 l3.length c3)).setCell (p := ⟨w5.heap.size, 3, none⟩) (by show wd'.heap.size ≤ w5.heap.size; omega) (.slice A4 l4.length c4)
      refine hK.out _ _ ⟨(blk_cell Xe 0).trans rfl, (blk_cell Xe 1).trans rfl, (blk_cell Xe 2).trans rfl, (blk_cell Xe 3).trans rfl⟩ (fun hHeld => ?_)
      clear hK K
      refine done_ (done_of HT_.out (by kernel_rfl)) ?_
      have hvz := blk_lt S4.arr
      have hvz2 := S4.hV
      have hvz3 := S4.hC
      obtain ⟨r3, r4⟩ := two_rows (w := w) R3 R4 (by (try simp only [World.size_alloc]); omega) (by (try simp only [World.size_alloc]); omega) (by (try simp only [World.size_alloc]); omega) (fun k _ hk => (set4_far w6 w5.heap.size (.int .i64 v1) (.int .i64 v2) (.slice A3 l3.length c3) (.slice A4 l4.length c4) k (by omega)).trans ((hb6.block k (by simp only [World.size_alloc]; omega)).trans (blk_alloc_eq _ _ k hk))) (fun k hk _ => by simp only [World.size_alloc] at hk; exact (set4_far w6 w5.heap.size (.int .i64 v1) (.int .i64 v2) (.slice A3 l3.length c3) (.slice A4 l4.length c4) k (by omega)))
      exact TAIL _ _ A3 A4 c3 c4 ⟨blk_below S4.cur BF, Ze, blk_below S4.res BF, below_step S4.below BF, r3, r4, S4.hC, by omega⟩
  · skip
    refine value_ rfl rfl (by go_simp; exact ⟨rfl, rfl⟩) ?_
    have Z : (wd'.drew.alloc (.cells #[.int .i64 0, .int .i64 0, .slice none 0 0, .slice none 0 0] 44)).heap[wd'.heap.size]? = some (.cells #[.int .i64 0, .int .i64 0, .slice none 0 0, .slice none 0 0] 44 (0, 0)) := blk_new wd'.drew (.cells #[.int .i64 0, .int .i64 0, .slice none 0 0, .slice none 0 0] 44)
    have hZV := blk_lt X
    have X' := blk_alloc X (.cells #[.int .i64 0, .int .i64 0, .slice none 0 0, .slice none 0 0] 44)
    refine hK.out _ _ ⟨(blk_cell X' 0).trans rfl, (blk_cell X' 1).trans rfl, (blk_cell X' 2).trans rfl, (blk_cell X' 3).trans rfl⟩ (fun hHeld => ?_)
    clear hK K
    refine norm_ (a' := ?_) ?_ ?_
    rotate_left
    · show Act.put _ (some 8) _ = _
      simp only [Act.put, List.setIfInBounds_toArray, List.set_cons_zero, List.set_cons_succ, i64_w, i32_w]
      rfl
    refine one_ (i := 7) (N := some 29) #[true, true, true, true, true, true, true, true, true, true, true, false, false, true, false] rfl rfl (one_of HT_.out (by kernel_rfl)) (by decide) (fun K hK => ?_)
    refine goes_ Tryd.func34 (by kernel_rfl) rfl #[.int .u64 (IntKind.u64.wrap v3)] (by rfl) rfl rfl (by (try simp only [List.map_toArray, List.map_cons, List.map_nil]); first | done | rfl | (simp only [List.length_drop, List.length_take]; rfl)) ?_
    with_reducible refine (berthingref07_Of.calls k (IntKind.u64.wrap v3) l3 _ hl3).mono ?_
    rintro e w5 ⟨o3, rfl, R3, hb5⟩
    obtain ⟨A3, c3, rfl, le3, C3⟩ := Kd.R_reads R3
    refine ⟨_, rfl, ?_⟩
    have X'' := blk_below X' hb5
    have Z' := blk_below Z hb5
    refine hK.out _ _ ⟨(blk_cell X'' 0).trans rfl, (blk_cell X'' 1).trans rfl, (blk_cell X'' 2).trans rfl, (blk_cell X'' 3).trans rfl⟩ (fun hHeld => ?_)
    clear hK K
    refine norm_ (a' := ?_) ?_ ?_
    rotate_left
    · show Act.put _ (some 29) _ = _
      simp only [Act.put, List.setIfInBounds_toArray, List.set_cons_zero, List.set_cons_succ, i64_w, i32_w]
      rfl
    refine one_ (i := 11) (N := some 33) #[true, true, true, true, true, true, true, true, true, true, true, true, false, true, false] rfl rfl (one_of HT_.out (by kernel_rfl)) (by decide) (fun K hK => ?_)
    refine goes_ Tryd.func34 (by kernel_rfl) rfl #[.int .u64 (IntKind.u64.wrap v4)] (by rfl) rfl rfl (by (try simp only [List.map_toArray, List.map_cons, List.map_nil]); first | done | rfl | (simp only [List.length_drop, List.length_take]; rfl)) ?_
    with_reducible refine (berthingref07_Of.calls k (IntKind.u64.wrap v4) l4 _ hl4).mono ?_
    rintro e w6 ⟨o4, rfl, R4, hb6⟩
    obtain ⟨A4, c4, rfl, le4, C4⟩ := Kd.R_reads R4
    refine ⟨_, rfl, ?_⟩
    have X''' := blk_below X'' hb6
    have Z'' := blk_below Z' hb6
    refine hK.out _ _ ⟨(blk_cell X''' 0).trans rfl, (blk_cell X''' 1).trans rfl, (blk_cell X''' 2).trans rfl, (blk_cell X''' 3).trans rfl⟩ (fun hHeld => ?_)
    clear hK K
    refine norm_ (a' := ?_) ?_ ?_
    rotate_left
    · show Act.put _ (some 33) _ = _
      simp only [Act.put, List.setIfInBounds_toArray, List.set_cons_zero, List.set_cons_succ, i64_w, i32_w]
      rfl
    refine pure_ (i := 12) (N := some 34) (v := ?_) (a' := ?_) #[true, true, true, true, true, true, true, true, true, true, true, true, true, true, false] rfl rfl (any_of HT_.out (by kernel_rfl)) (fun _ _ _ h => h) (Or.inl ⟨by rfl, ?_⟩) ?_ ?_
    rotate_left
    · intro w'
      go_simp
      with_reducible rfl
    rotate_left
    · simp only [Act.put, List.setIfInBounds_toArray, List.set_cons_zero, List.set_cons_succ, i64_w, i32_w]
      rfl
    have g0 := (blk_cell Z'' 0).trans rfl
    have g1 := (blk_cell Z'' 1).trans rfl
    have g2 := (blk_cell Z'' 2).trans rfl
    have g3 := (blk_cell Z'' 3).trans rfl
    have gf0 := blk_frozen Z'' 0
    have gf1 := blk_frozen Z'' 1
    have gf2 := blk_frozen Z'' 2
    have gf3 := blk_frozen Z'' 3
    refine one_ (i := 14) (N := none) #[true, true, true, true, true, true, true, true, true, true, true, true, true, true, true] rfl rfl (one_of HT_.out (by kernel_rfl)) (by decide) (fun K hK => ?_)
    refine skip_ rfl rfl (by go_simp; rfl) ?_
    have Xe := (blk_far (blk_far (blk_far (blk_far X''' (p := ⟨wd'.heap.size, 0, none⟩) (by exact Nat.ne_of_lt hZV) (.int .i64 v1)) (p := ⟨wd'.heap.size, 1, none⟩) (by exact Nat.ne_of_lt hZV) (.int .i64 v2)) (p := ⟨wd'.heap.size, 2, none⟩) (by exact Nat.ne_of_lt hZV) (.slice A3 l3.length c3)) (p := ⟨wd'.heap.size, 3, none⟩) (by exact Nat.ne_of_lt hZV) (.slice A4 l4.length c4))
    have Ze := blk_put (blk_put (blk_put (blk_put Z'' 0 (.int .i64 v1) rfl) 1 (.int .i64 v2) rfl) 2 (.slice A3 l3.length c3) rfl) 3 (.slice A4 l4.length c4) rfl
    have hsz5 := hb5.size
    have hsz6 := hb6.size
    try simp only [World.size_alloc] at hsz5
    try simp only [World.size_alloc] at hsz6
    have hdz : wd'.drew.heap.size = wd'.heap.size := rfl
    have hdz3 : (wd'.drew.alloc (.cells #[.int .i64 0, .int .i64 0, .slice none 0 0, .slice none 0 0] 44)).heap.size = wd'.heap.size + 1 := World.size_alloc _ _
    have hdz4 : ((wd'.alloc (.cells #[.int .i64 0, .int .i64 0, .slice none 0 0, .slice none 0 0] 44)).drew).heap.size = wd'.heap.size + 1 := World.size_alloc wd' _
    have BF := ((((below_step (below_step ((below_drew1 (Below.refl _ wd')).alloc (by exact Nat.le_refl _) _) hb5) hb6).setCell (p := ⟨wd'.heap.size, 0, none⟩) (by show wd'.heap.size ≤ wd'.heap.size; omega) (.int .i64 v1)).setCell (p := ⟨wd'.heap.size, 1, none⟩) (by show wd'.heap.size ≤ wd'.heap.size; omega) (.int .i64 v2)).setCell (p := ⟨wd'.heap.size, 2, none⟩) (by show wd'.heap.size ≤ wd'.heap.size; omega) (.slice A3 l3.length c3)).setCell (p := ⟨wd'.heap.size, 3, none⟩) (by show wd'.heap.size ≤ wd'.heap.size; omega) (.slice A4 l4.length c4)
    refine hK.out _ _ ⟨(blk_cell Xe 0).trans rfl, (blk_cell Xe 1).trans rfl, (blk_cell Xe 2).trans rfl, (blk_cell Xe 3).trans rfl⟩ (fun hHeld => ?_)
    clear hK K
    refine done_ (done_of HT_.out (by kernel_rfl)) ?_
    have hvz := blk_lt S4.arr
    have hvz2 := S4.hV
    have hvz3 := S4.hC
    obtain ⟨r3, r4⟩ := two_rows (w := w) R3 R4 (by (try simp only [World.size_alloc]); omega) (by (try simp only [World.size_alloc]); omega) (by (try simp only [World.size_alloc]); omega) (fun k hk3 hk => by exact (set4_far w6 wd'.heap.size (.int .i64 v1) (.int .i64 v2) (.slice A3 l3.length c3) (.slice A4 l4.length c4) k (by omega)).trans (hb6.block k hk)) (fun k hk _ => (set4_far w6 wd'.heap.size (.int .i64 v1) (.int .i64 v2) (.slice A3 l3.length c3) (.slice A4 l4.length c4) k (by omega)))
    exact TAIL _ _ A3 A4 c3 c4 ⟨blk_below S4.cur BF, Ze, blk_below S4.res BF, below_step S4.below BF, r3, r4, S4.hC, by omega⟩
end Go.Proofs.YtmdjhdnejmegfaaDoor.RefRead
