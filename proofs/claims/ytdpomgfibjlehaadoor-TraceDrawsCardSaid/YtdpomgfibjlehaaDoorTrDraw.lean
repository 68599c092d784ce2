/- A part of the proofs over trace (TrDraw): contracts of the program's functions and plain laws. Conditions: those that each theorem states. -/
import Derived.Test.YtdpomgfibjlehaaDoorPTrx0
import Derived.Test.YtdpomgfibjlehaaDoorTrRows
set_option linter.unusedVariables false
/- The steps of a region that draws, with shorter words. -/
namespace Go.Proofs.YtdpomgfibjlehaaDoor.Tr
open Go Go.Proofs Go.RowKit Go.Proofs.YtdpomgfibjlehaaDoorW.PrintWords Go.Proofs.YtdpomgfibjlehaaDoorW.PrintLast
variable {P : Program} {ops : Array Oper} {Q : Exit → Act → World → Prop} {md : Region.Mode} {S : World → Prop} {ds : List Nat} {T : Bool × List (List Nat × List Nat)} {B : List Nat} {oi : Oper} {fuel : Nat} {l : Array Bool} {a : Act} {w : World}
theorem pu (i : Nat) (N : Option Tmp) (v : Value) (HT : Aside0 (rtab md ops = T)) (hi : ops[i]? = some oi) (hN : oi.dst = N) (hc : anyT T l.toList (l.setIfInBounds i true).toList i = true) (hQ : ∀ c a w, Q (.panic c) (a.put oi.dst v) w → Q (.panic c) a w)
    (hy : Yields P ops oi v a) (a' : Act) (ha : a.put N v = a') (h : wpAnyLast P md ops Q S ds fuel (l.setIfInBounds i true) a' w) : wpAnyLast P md ops Q S ds (fuel + 1) l a w :=
  pure_ _ hi hN (any_of HT.out hc) hQ hy ha h
theorem tk (i : Nat) (N : Option Tmp) (v : Value) (HT : Aside0 (rtab md ops = T)) (HW : Aside0 (waitsOk T.2 B = true)) (hi : ops[i]? = some oi) (hN : oi.dst = N) (hc : takeW T B ds l.toList (l.setIfInBounds i true).toList i = true) (hQ : ∀ c a w, Q (.panic c) (a.put oi.dst v) w → Q (.panic c) a w)
    (hy : YieldsIf P ops S oi v a) (hS : S w) (a' : Act) (ha : a.put N v = a') (h : wpAnyLast P md ops Q S ds fuel (l.setIfInBounds i true) a' w) : wpAnyLast P md ops Q S ds (fuel + 1) l a w :=
  take_ _ hi hN (take_ofW HT.out HW.out hc) hQ hy hS ha h
theorem on (i : Nat) (N : Option Tmp) (HT : Aside0 (rtab md ops = T)) (hi : ops[i]? = some oi) (hN : oi.dst = N) (hc : (readyT T.2 l.toList == [i] && l.toList.set i true == (l.setIfInBounds i true).toList) = true) (hd : i ∉ ds)
    (h : ∀ K : Act → World → Prop, Shut (∀ a' w', S w' → (S w' → wpAnyLast P md ops Q S ds fuel (l.setIfInBounds i true) a' w') → K a' w') → if Region.wanted oi (yielded ops a.tmps) = true then Oper.wp P oi a w K Q else K (a.put N undef) w) : wpAnyLast P md ops Q S ds (fuel + 1) l a w :=
  one_ _ hi hN (one_of HT.out hc) hd h
theorem sA {α : Type} (l : List α) (i : Nat) (a : α) : l.toArray.setIfInBounds i a = (l.set i a).toArray := List.setIfInBounds_toArray ..
theorem sB {α : Type} (x a : α) (l : List α) : (x :: l).set 0 a = a :: l := rfl
theorem sC {α : Type} (x a : α) (l : List α) (i : Nat) : (x :: l).set (i + 1) a = x :: l.set i a := rfl
/-! what carries facts on, with short names -/
theorem bA {w W : World} (h : Below w.heap.size w W) (o : Obj) : Below w.heap.size w (W.alloc o) := below_alloc h o
theorem bN {base : Nat} {w W : World} (h : Below base w W) (m : Nat) : Below base w (W.drewN m) := pw_below_drewN h m
theorem bD {base : Nat} {w W : World} (h : Below base w W) : Below base w W.drew := below_drew1 h
theorem bS {w W : World} {g j : Nat} {v : Value} (h : Below w.heap.size w W) (hg : w.heap.size ≤ g) : Below w.heap.size w (W.setCell ⟨g, j, none⟩ v) := below_set h hg
theorem kA {W : World} {g : Nat} {o : Obj} (h : W.heap[g]? = some o) (u : Obj) : (W.alloc u).heap[g]? = some o := blk_alloc h u
theorem kN {W : World} {g : Nat} {o : Obj} (h : W.heap[g]? = some o) (m : Nat) : (W.drewN m).heap[g]? = some o := blk_drewN h m
theorem kD {W : World} {g : Nat} {o : Obj} (h : W.heap[g]? = some o) : W.drew.heap[g]? = some o := blk_drew h
section
variable {α : Type} {d : Kd α} {e n : Nat} {w : World} {base : Nat} {ok : Nat → Prop} {v : Value} {A : Option Addr} {xs : List α}
theorem rA (h : d.R e w base ok v xs) (o : Obj) : d.R e (w.alloc o) base ok v xs := Kd.R_alloc h o
theorem rD (h : d.R e w base ok v xs) : d.R e w.drew base ok v xs := Kd.R_drew h
theorem rN (h : d.R e w base ok v xs) (m : Nat) : d.R e (w.drewN m) base ok v xs := Kd.R_drewN h m
theorem cA (h : d.C w A n xs) (o : Obj) : d.C (w.alloc o) A n xs := Kd.C_alloc h o
theorem cD (h : d.C w A n xs) : d.C w.drew A n xs := Kd.C_drew h
theorem cN (h : d.C w A n xs) (m : Nat) : d.C (w.drewN m) A n xs := Kd.C_drewN h m
end
end Go.Proofs.YtdpomgfibjlehaaDoor.Tr

set_option linter.unusedVariables false
set_option linter.unusedSimpArgs false
/- trace.Draw -/
namespace Go.Proofs.YtdpomgfibjlehaaDoor.Tr
open Go Go.Proofs Go.RowKit Go.Lib Go.Proofs.YtdpomgfibjlehaaDoorW.PrintWords Go.Proofs.YtdpomgfibjlehaaDoorW.PrintLast Go.Proofs.YtdpomgfibjlehaaDoorW.PrintMore Go.Proofs.YtdpomgfibjlehaaDoor.PTr
attribute [local go_sem] Oper.semAt_some

def timeI (fr k : Int) : Int := if fr ≥ 1099511627776 then 1099511627776 else wrap64 (fr + k)
theorem time_calls (fr k : Int) (b : Nat) (w : World) (hb : w.cell? ⟨b, 0, none⟩ = some (.int .i64 fr)) :
    Calls Tryd.prog 32 #[.int .i64 k, .pointer (some ⟨b, 0, none⟩)] w fun e w' => e = .returned (.int .i64 (timeI fr k)) ∧ w' = w := by
  unfold timeI
  by_cases h : fr ≥ 1099511627776
  · rw [if_pos h]
    have e1 : decide (fr ≥ 1099511627776) = true := decide_eq_true h
    go_enter Tryd.func32, Tryd.ntmps32
    go_wp2
    go_ret
    exact ⟨rfl, rfl⟩
  · rw [if_neg h]
    have e1 : decide (fr ≥ 1099511627776) = false := decide_eq_false h
    obtain ⟨z, hz⟩ : ∃ z, wrap64 (fr + k) = z := ⟨_, rfl⟩
    have hw : IntKind.i64.wrap (fr + k) = z := by rw [IntKind.wrap_i64]; unfold wrap64 at hz; omega
    rw [hz]
    clear hz h
    go_enter Tryd.func32, Tryd.ntmps32
    go_wp2
    go_ret
    exact ⟨rfl, rfl⟩
def ownP (part : Int) (rs : List TRow) : List TRow := rs.filter fun r => r.part == part
def drawRow (xs : List TRow) (fr n : Int) (k : Nat) : List Int := (List.range k).map fun (j : Nat) => cellC xs n (timeI fr (j : Int))
def drawTo (xs : List TRow) (fr : Int) (many : Nat) (n : Nat) : List Int := (List.range n).flatMap fun (i : Nat) => drawRow xs fr (i : Int) many ++ [10]
/-- the bytes of a drawing -/
def drawL (l : List S46) (part nodes fr many : Int) : List Int := drawTo (ownP part (rowsL l)) fr (max 0 (min many 1024)).toNat (max 0 (min nodes 64)).toNat
theorem ownP_snoc (part : Int) (rs : List TRow) (x : TRow) : ownP part (rs ++ [x]) = if x.part = part then ownP part rs ++ [x] else ownP part rs := by
  unfold ownP
  rw [List.filter_append]
  by_cases h : x.part = part
  · rw [if_pos h]; simp [h]
  · rw [if_neg h]; simp [h]
theorem drawRow_succ (xs : List TRow) (fr n : Int) (k : Nat) : drawRow xs fr n (k + 1) = drawRow xs fr n k ++ [cellC xs n (timeI fr (k : Int))] := by
  unfold drawRow; rw [List.range_succ, List.map_append]; rfl
theorem drawTo_succ (xs : List TRow) (fr : Int) (many n : Nat) : drawTo xs fr many (n + 1) = drawTo xs fr many n ++ (drawRow xs fr (n : Int) many ++ [10]) := by
  unfold drawTo; rw [List.range_succ, List.flatMap_append]; simp
theorem drawRow_length (xs : List TRow) (fr n : Int) (k : Nat) : (drawRow xs fr n k).length = k := by unfold drawRow; simp
theorem drawTo_length (xs : List TRow) (fr : Int) (many n : Nat) : (drawTo xs fr many n).length = n * (many + 1) := by
  induction n with
  | zero => simp [drawTo]
  | succ n ih => rw [drawTo_succ, List.length_append, ih, List.length_append, drawRow_length, Nat.succ_mul]; rfl
/-- one row more, of rows without rows inside -/
theorem R_more {W w1 : World} {B : Nat} {v v1 : Value} {xs : List TRow} {x : TRow} {inner : List Value} (hr : Reps (kR.M W B (fun k => True ∧ some k ≠ v.ownBlock)) kR.sz xs inner)
    (hown : w1.ownsRow B 77 6 v1 (xs.length + 1) (inner ++ (rowC x).toList)) : Kd.R kR 77 w1 B (fun _ => True) v1 (xs ++ [x]) := by
  refine ⟨fun _ _ => trivial, inner ++ (rowC x).toList, by rw [List.length_append, List.length_singleton]; exact hown, ?_⟩
  refine Reps.snoc (hr.imp_ (fun p c hp => ?_)) (kR_mkM _ _ _ x) rfl
  obtain rfl := kR_openM hp
  exact kR_mkM _ _ _ p
theorem R_moreB {W w1 : World} {B : Nat} {v v1 : Value} {xs : List Int} {b : Int} {inner : List Value} (hr : Reps ((Kd.int .u8).M W B (fun k => True ∧ some k ≠ v.ownBlock)) (Kd.int .u8).sz xs inner)
    (hown : w1.ownsRow B 5 1 v1 (xs.length + 1) (inner ++ [.int .u8 b])) : Kd.R (Kd.int .u8) 5 w1 B (fun _ => True) v1 (xs ++ [b]) := by
  refine ⟨fun _ _ => trivial, inner ++ [.int .u8 b], by rw [List.length_append, List.length_singleton]; exact hown, ?_⟩
  exact Reps.snoc (hr.imp_ (fun p c hp => hp)) (show Kd.M (Kd.int .u8) _ _ _ b [.int .u8 b] from rfl) rfl
def calmQ (Q : Exit → Act → World → Prop) : Exit → Act → World → Prop := fun e a w => match e with
  | .normal => Q .normal a w
  | _ => False
theorem wp_calm {P : Program} {c : Code} {Q : Exit → Act → World → Prop} {a : Act} {w : World} (h : c.wp P (calmQ Q) a w) : c.wp P Q a w :=
  wp_mono h (fun e a w hq => by cases e <;> first | exact hq | exact hq.elim)
theorem R_own {W w1 : World} {B : Nat} {v : Value} {xs : List TRow} (h : Kd.R kR 77 W B (fun _ => True) v xs) {row : Option Nat} (hg : W.grownBy w1 row) (hr : ∀ k, row = some k → ∃ o, W.heap[k]? = some o ∧ o.isCells = false) : Kd.R kR 77 w1 B (fun _ => True) v xs :=
  Kd.R_mono (Kd.R_grown (Kd.R_bound h) hg (fun k hk e => by
    obtain ⟨o, ho, hc⟩ := hr k e.symm
    obtain ⟨_, _, _, q, _, cells, hcl⟩ := hk
    rw [hcl] at ho; cases ho; cases hc)) (fun _ _ => trivial)
def drawRg.T14 : Bool × List (List Nat × List Nat) := (true, [([], []), ([], []), ([], []), ([], []), ([], []), ([3, 4], [3, 4]), ([1, 2, 5, 5], [1, 2, 5]), ([6], [6]), ([0, 7, 6], [0, 7]), ([8, 8, 0, 1, 2, 3, 4, 5, 6, 7, 8], [0, 8])])
def drawRg.B14 : List Nat := [0, 0, 0, 0, 0, 24, 62, 126, 255, 511]
theorem drawRg.tab14 : rtab .any (opsOf Tryd.f14 14) = drawRg.T14 := by kernel_rfl
theorem drawRg.bits14 : waitsOk drawRg.T14.2 drawRg.B14 = true := by kernel_rfl

set_option maxRecDepth 100000 in
set_option maxHeartbeats 32000000 in
theorem draw_calls (A : Option Addr) (c : Nat) (l : List S46) (part nodes fr many : Int) (w : World) (hl : l.length < 1099511627776) (hc : l.length ≤ c) (hC : Kd.C k46 w A l.length l) :
    Calls Tryd.prog 14 #[.slice A l.length c, .int .i64 part, .int .i64 nodes, .int .i64 fr, .int .i64 many] w fun e w' => e = .returned (.string (strOfNums (drawL l part nodes fr many))) ∧ Below w.heap.size w w' := by
  have f31 : Fence.wide.fn 31 := trivial
  refine (callsIn_wide (n := 7)).1 ?_
  refine callsIn_of_wp_marks Tryd.func14 rfl trivial ?_ rfl
  simp only [Tryd.ntmps14, List.size_toArray, List.length_cons, List.length_nil, Nat.reduceAdd, Nat.reduceSub, Array.replicate_succ, Array.replicate_zero, List.push_toArray, List.append_toArray, List.nil_append, List.cons_append]
  have HC := Aside0.mk hC
  have HA := Aside0.mk (fun ad he h0 => row_lt hC ad he h0)
  clear hC
  have n0 := blk_new w (.cells #[.int .i64 part] 3)
  have n1 := blk_new (w.alloc (.cells #[.int .i64 part] 3)) (.cells #[.int .i64 fr] 38)
  have n2 := blk_new ((w.alloc (.cells #[.int .i64 part] 3)).alloc (.cells #[.int .i64 fr] 38)) (.cells #[.slice none 0 0] 70)
  have hb0 : Below w.heap.size w (((w.alloc (.cells #[.int .i64 part] 3)).alloc (.cells #[.int .i64 fr] 38)).alloc (.cells #[.slice none 0 0] 70)) := (((Below.refl _ w).alloc (Nat.le_refl _) _).alloc (by simp only [World.size_alloc]; omega) _).alloc (by simp only [World.size_alloc]; omega) _
  have n0' := blk_alloc (blk_alloc n0 (.cells #[.int .i64 fr] 38)) (.cells #[.slice none 0 0] 70)
  have n1' := blk_alloc n1 (.cells #[.slice none 0 0] 70)
  simp only [World.size_alloc] at n1' n2
  obtain ⟨W0, hW0⟩ : ∃ W0, (((w.alloc (.cells #[.int .i64 part] 3)).alloc (.cells #[.int .i64 fr] 38)).alloc (.cells #[.slice none 0 0] 70)) = W0 := ⟨_, rfl⟩
  have hs0 : W0.heap.size = w.heap.size + 3 := by rw [← hW0]; simp only [World.size_alloc]
  rw [hW0] at n0' n1' n2 hb0
  have HW0 := Aside0.mk hW0
  have HRW := Aside0.mk (fun W => rows_calls A l.length c W)
  clear n0 n1 hW0
  gi_wp2_with (first
    | (gi_at_call 31; rw [HW0.out]; refine (callsIn_wide.2 (HRW.out _)).mono ?_; rintro e w1 ⟨rfl, hw1⟩))
  have n3 := blk_new W0 (.cells #[.slice A l.length c] 22)
  have hb1 : Below W0.heap.size W0 (W0.alloc (.cells #[.slice A l.length c] 22)) := (Below.refl _ W0).alloc (Nat.le_refl _) _
  have hsz1 : w1.heap.size = w.heap.size + 4 := by rw [hw1, World.size_alloc, hs0]
  rw [← hw1] at n3 hb1 ⊢
  clear hw1 HW0 HRW
  have hb2 : Below w.heap.size w w1 := hb0.trans (hb1.mono (by omega))
  rw [hs0] at n3
  have c0 : Boxed w1 w.heap.size 3 (.int .i64 part) := (hb1.block _ (by omega)).trans n0'
  have c1 : Boxed w1 (w.heap.size + 1) 38 (.int .i64 fr) := (hb1.block _ (by omega)).trans n1'
  have c2 : Boxed w1 (w.heap.size + 1 + 1) 70 (.slice none 0 0) := (hb1.block _ (by omega)).trans n2
  have HR1 := Aside0.mk (Kd.C_below HC.out hb2)
  have hrl : (rowsL l).length ≤ l.length := by
    unfold rowsL rowsTo
    have := List.length_filterMap_le (rowI l) (List.range l.length)
    rwa [List.length_range] at this
  refine wpIn_rangeFunc_ownH rfl (by omega) (gf := 56) (lb := #[.pointer (some ⟨w.heap.size + 3, 0, none⟩)]) rfl trivial (enters_of Tryd.func56 (by kernel_rfl) rfl)
    (rows_stops (7 - 1) (by omega) (w.heap.size + 3) A c l (by omega) hc w1 (w.heap.size + 1 + 1) (by omega) (by omega) (fun ad he h0 => by have := HA.out ad he h0; omega) HR1.out ((blk_cell n3 0).trans rfl)) (fun h k => KeepB.trans h k) (fun W l o o' _ hl ho _ => KeepB.putObj W l o o' hl ho) (Below.refl _ _) (fun _ => rfl)
    (fun pre W => ((∃ v, Boxed W (w.heap.size + 1 + 1) 70 v ∧ Kd.R kR 77 W (w.heap.size + 4) (fun _ => True) v (ownP part pre)) ∧ Boxed W w.heap.size 3 (.int .i64 part) ∧ Boxed W (w.heap.size + 1) 38 (.int .i64 fr)) ∧ Below w.heap.size w W ∧ w.heap.size + 4 ≤ W.heap.size)
    (fun c pre W => False)
    (OwnFrom.and (Own.from (fun s A B row hs hg hr => by
      obtain ⟨⟨v, h1, h2⟩, h3, h4⟩ := hs
      exact ⟨⟨v, boxed_own (β := Unit) _ _ (fun _ => _) () A B row h1 hg hr, R_own h2 hg hr⟩, boxed_own (β := Unit) _ _ (fun _ => _) () A B row h3 hg hr, boxed_own (β := Unit) _ _ (fun _ => _) () A B row h4 hg hr⟩) _)
      (OwnFrom.and (ownFrom_below (Nat.le_refl _) (by omega)) (Own.from (fun s A B row hs hg hr => Nat.le_trans hs hg.size) _)))
    (fun c => Own.from (fun s A B row hs hg hr => hs) _)
    ⟨⟨⟨_, c2, Kd.R_nil _ _ _ _ _⟩, c0, c1⟩, hb2, by omega⟩
    (fun x a' W => ∃ Bx, w.heap.size + 4 ≤ Bx ∧ W.heap[Bx]? = some (.cells (rowC x) 77 (0, 0)) ∧ a' = { tmps := #[.slice A l.length c, .int .i64 part, .int .i64 nodes, .int .i64 fr, .int .i64 many, undef, .pointer (some ⟨w.heap.size, 0, none⟩), undef, .pointer (some ⟨w.heap.size + 1, 0, none⟩), undef, .string ⟨#[]⟩, .pointer (some ⟨w.heap.size + 1 + 1, 0, none⟩), .pointer (some ⟨Bx, 0, none⟩), undef, undef, undef, undef, .slice A l.length c, .func (.func 56) #[] #[.pointer (some ⟨w.heap.size + 3, 0, none⟩)], rowV x, undef, undef, undef, undef, undef, undef, undef, undef, undef, undef, undef, undef, undef, undef, undef, undef, undef, undef, undef, undef, undef, undef, undef, undef, undef, undef, undef, undef, undef, undef, undef, undef, undef, undef, undef, undef, undef], defers := [] })
    (fun x a' => Own.from (fun s A B row hs hg hr => by
      obtain ⟨Bx, h1, h2, h3⟩ := hs
      exact ⟨Bx, h1, (hg.block Bx (blk_lt h2) (fun e => by obtain ⟨o, ho, hc⟩ := hr Bx e.symm; rw [h2] at ho; cases ho; cases hc)).trans h2, h3⟩) _) ?assign ?body ?done ?stop
  case assign =>
    rintro yl pre x W K ⟨⟨⟨v, h2, hR⟩, h0, h1⟩, hB, hz⟩ hK
    gi_wp2
    exact hK _ _ ((KeepsOthers.alloc _ _).from _) (KeepB.below ((Below.refl _ W).alloc (Nat.le_refl _) _)) ⟨⟨⟨v, h2.alloc _, Kd.R_alloc hR _⟩, h0.alloc _, h1.alloc _⟩, hB.alloc hB.size _, by rw [World.size_alloc]; omega⟩ ⟨W.heap.size, hz, blk_new W _, rfl⟩
  case body =>
    rintro yl pre x a' W hl2 ⟨r0, hr0⟩ ⟨⟨⟨v, h2, hR⟩, h0, h1⟩, hB, hz⟩ ⟨Bx, hBx, bX, rfl⟩ hlt
    have g0 := h0.cell
    have g2 := h2.cell
    have x0 : W.cell? ⟨Bx, 0, none⟩ = some (.int .i64 x.job) := (blk_cell bX 0).trans rfl
    have x1 : W.cell? ⟨Bx, 1, none⟩ = some (.int .i64 x.part) := (blk_cell bX 1).trans rfl
    have x2 : W.cell? ⟨Bx, 2, none⟩ = some (.int .u64 x.nodes) := (blk_cell bX 2).trans rfl
    have x3 : W.cell? ⟨Bx, 3, none⟩ = some (.int .i64 x.fr) := (blk_cell bX 3).trans rfl
    have x4 : W.cell? ⟨Bx, 4, none⟩ = some (.int .i64 x.to_) := (blk_cell bX 4).trans rfl
    have x5 : W.cell? ⟨Bx, 5, none⟩ = some (.int .i64 x.en) := (blk_cell bX 5).trans rfl
    have hsn := ownP_snoc part pre x
    have hpl : (ownP part pre).length < 1099511627776 := by
      have : (ownP part pre).length ≤ pre.length := List.length_filter_le _ _
      omega
    by_cases hp : x.part = part
    · have e1 : (x.part == part) = true := by simpa using hp
      rw [if_pos hp] at hsn
      have HSN := Aside0.mk hsn
      have HRR := Aside0.mk hR
      have H0 := Aside0.mk h0
      have H1 := Aside0.mk h1
      have H2 := Aside0.mk h2
      have HBD := Aside0.mk hB
      obtain ⟨Av, cv, rfl⟩ := Kd.R_slice hR
      have hr1 := hR.2
      obtain ⟨inner, hown, hrp⟩ := hr1
      have HRP := Aside0.mk hrp
      have HOW := Aside0.mk hown
      obtain ⟨i0, hi0, hz0, hz1, hz2⟩ := info_parts infoR
      have HI0 := Aside0.mk hi0
      have HZ0 := Aside0.mk hz0
      have HZ1 := Aside0.mk hz1
      have HZ2 := Aside0.mk hz2
      have HWZ := Aside0.mk hz
      clear hsn hp h0 h1 h2 hB bX hown hrp hi0 hz0 hz1 hz2 hR hz
      gi_wp2_with (gi_at_builtin; refine wpListIn_append_own _ rfl (.tmp 24) (.tmp 26) 70 rfl (w.heap.size + 4) 77 i0 (.agg #[.int .i64 0, .int .i64 0, .int .u64 0, .int .i64 0, .int .i64 0, .int .i64 0]) 6 48 Tryd.underlying70 HI0.out HZ0.out HZ1.out HZ2.out rfl (by decide) (.slice Av (ownP part pre).length cv) (ownP part pre).length inner rfl (HOW.out.alloc _) ⟨W.heap.size, 0, none⟩ 1 1 (rowC x).toList rfl rfl ?c1 ?c2 ?c3 ?c4 ?c5 ?_; (case c1 => simpa using World.news_of_block (cs := rowC x) (t := 77) (fr := (0, 0)) (heap_alloc_new W (.cells (rowC x) 77))); (case c2 => intro u hu; simp [rowC] at hu; rcases hu with rfl | rfl | rfl | rfl | rfl | rfl <;> rfl); (case c3 => simp only [maxLen]; omega); (case c4 => omega); (case c5 => rw [World.size_alloc]; have := HWZ.out; omega); intro v1 w2 hown1 hg1 hnil1; have hsr : ∀ k, (Value.slice Av (ownP part pre).length cv).ownBlock = some k → w.heap.size + 4 ≤ k := own_base HOW.out; have hkb : ∀ k, k < w.heap.size + 4 → w2.heap[k]? = W.heap[k]? := (fun k hk => (hg1.block k (by rw [World.size_alloc]; have := HWZ.out; omega) (fun e => by have := hsr k e.symm; omega)).trans (((Below.refl W.heap.size W).alloc (Nat.le_refl _) (.cells (rowC x) 77)).block k (by have := HWZ.out; omega))); have k3 : Boxed w2 (w.heap.size + 1 + 1) 70 (.slice Av (ownP part pre).length cv) := (hkb _ (by omega)).trans H2.out; have k4 := k3.cell; have k5 := k3.frozen; have hRf := R_more HRP.out hown1; obtain ⟨A1, cc1, rfl⟩ := Kd.R_slice hRf; rw [List.length_append, List.length_singleton] at hRf)
      have hbW : Below w.heap.size w w2 := ((HBD.out.alloc HBD.out.size (.cells (rowC x) 77)).grown hg1 (by rw [World.size_alloc]; have := HWZ.out; omega) (fun k hk => by have := hsr k hk; omega))
      refine ⟨((KeepsOthers.alloc _ _).trans ((KeepsOthers.of_grownBy hg1 (fun j o ej ho => ?_)).trans (KeepsOthers.setCell _ _ _))).from _, fun k cs e f hk hkb2 hks => ?_, ⟨⟨_, k3.set _, ?_⟩, ?_, ?_⟩, hbW.setCell (p := ⟨w.heap.size + 1 + 1, 0, none⟩) (by show w.heap.size ≤ w.heap.size + 1 + 1; omega) _, ?_⟩
      · obtain ⟨cells, hc⟩ := own_typed (HOW.out.alloc (.cells (rowC x) 77)) j ej
        rw [hc] at ho; cases ho; rfl
      · exact (Below.heap_setCell w2 ⟨w.heap.size + 1 + 1, 0, none⟩ _ k hks).trans ((hkb k (by omega)).trans hk)
      · rw [HSN.out]
        exact Kd.R_mono (Kd.R_far (p := ⟨w.heap.size + 1 + 1, 0, none⟩) (Kd.R_bound hRf) (fun k hk e => by have h5 := hk.2.1; have h6 : k = w.heap.size + 1 + 1 := e; omega) _) (fun _ _ => trivial)
      · exact (Below.heap_setCell w2 ⟨w.heap.size + 1 + 1, 0, none⟩ _ w.heap.size (by show w.heap.size ≠ w.heap.size + 1 + 1; omega)).trans ((hkb _ (by omega)).trans H0.out)
      · exact (Below.heap_setCell w2 ⟨w.heap.size + 1 + 1, 0, none⟩ _ (w.heap.size + 1) (by show w.heap.size + 1 ≠ w.heap.size + 1 + 1; omega)).trans ((hkb _ (by omega)).trans H1.out)
      · have h1 := hg1.size
        rw [World.size_alloc] at h1
        have := HWZ.out
        simp [World.setCell]; omega
    · have e1 : (x.part == part) = false := by simpa using hp
      rw [if_neg hp] at hsn
      have HSN := Aside0.mk hsn
      clear hsn hp
      gi_wp2
      exact ⟨(keepsOthers_below (Below.refl _ _)).from _, fun k cs e f hk _ _ => hk, ⟨⟨v, h2, by rw [HSN.out]; exact hR⟩, h0, h1⟩, hB, hz⟩
  case done =>
    rintro D ys W hD hys ⟨⟨⟨v, h2, hR⟩, h0, h1⟩, hB, hz⟩ hK
    rw [hys] at hR
    have hol : (ownP part (rowsL l)).length ≤ l.length := Nat.le_trans (List.length_filter_le _ _) hrl
    obtain ⟨xs, hxs⟩ : ∃ xs, ownP part (rowsL l) = xs := ⟨_, rfl⟩
    obtain ⟨N, hN⟩ : ∃ N : Nat, max 0 (min nodes 64) = (N : Int) := ⟨(max 0 (min nodes 64)).toNat, by omega⟩
    obtain ⟨M, hM⟩ : ∃ M : Nat, max 0 (min many 1024) = (M : Int) := ⟨(max 0 (min many 1024)).toNat, by omega⟩
    have hres : drawL l part nodes fr many = drawTo xs fr M N := by unfold drawL; rw [hxs, hN, hM]; rfl
    rw [hxs] at hR hol
    obtain ⟨Ao, co, rfl, hlo, hCo⟩ := Kd.R_reads hR
    have hN64 : N ≤ 64 := by omega
    have hM1024 : M ≤ 1024 := by omega
    have HRES := Aside0.mk hres
    have HCo := Aside0.mk hCo
    have HK := Aside0.mk hK
    have HB := Aside0.mk hB
    have gO : W.cell? ⟨w.heap.size + 1 + 1, 0, none⟩ = some (.slice Ao xs.length co) := h2.cell
    have gF : W.cell? ⟨w.heap.size + 1, 0, none⟩ = some (.int .i64 fr) := h1.cell
    have GO := Aside0.mk gO
    have GF := Aside0.mk gF
    obtain ⟨i1, hi1⟩ : ∃ i : Int, (if 64 < nodes then 64 else nodes) = i := ⟨_, rfl⟩
    have hi2 : (if 0 < i1 then i1 else 0) = (N : Int) := by rw [← hi1, ← hN]; split <;> split <;> omega
    obtain ⟨j1, hj1⟩ : ∃ i : Int, (if 1024 < many then 1024 else many) = i := ⟨_, rfl⟩
    have hj2 : (if 0 < j1 then j1 else 0) = (M : Int) := by rw [← hj1, ← hM]; split <;> split <;> omega
    have HJ1 := Aside0.mk hj1
    have HJ2 := Aside0.mk hj2
    clear hxs hN hM hres hCo hK hB gO gF hys hR h2 h0 h1 hj1 hj2
    gi_wp2
    clear hi1 hi2
    gi_loopw [14, 32] (fun v14 v32 wr => ∃ n : Nat, v32 = .int .i64 (n : Int) ∧ n ≤ N ∧ Kd.R (Kd.int .u8) 5 wr W.heap.size (fun _ => True) v14 (drawTo xs fr M n) ∧ Below W.heap.size W wr) (fun v14 v32 wr => N - natV v32)
    case atStart => exact ⟨0, rfl, Nat.zero_le _, Kd.R_nil _ _ _ _ _, Below.refl _ _⟩
    case round =>
      obtain ⟨n, rfl, hn, hRn, hBn⟩ := hrel
      have HRn := Aside0.mk hRn
      have HBn := Aside0.mk hBn
      clear hRn hBn
      by_cases hlt : n < N
      · have e1 : decide ((n : Int) < (N : Int)) = true := decide_eq_true (by omega)
        have hj1 := HJ1.out
        have hj2 := HJ2.out
        gi_wp2
        clear hj1 hj2
        have HNM := Aside0.mk (show n * (M + 1) ≤ 64 * 1025 from Nat.mul_le_mul (by omega) (by omega))
        obtain ⟨wo, rfl⟩ : ∃ wo : World, wo = wr := ⟨_, rfl⟩
        gi_loopw [14, 38] (fun v14 v38 wr => ∃ k : Nat, v38 = .int .i64 (k : Int) ∧ k ≤ M ∧ Kd.R (Kd.int .u8) 5 wr W.heap.size (fun _ => True) v14 (drawTo xs fr M n ++ drawRow xs fr (n : Int) k) ∧ Below W.heap.size W wr) (fun v14 v38 wr => M - natV v38)
        case atStart => exact ⟨0, rfl, Nat.zero_le _, by rw [show drawRow xs fr (n : Int) 0 = [] from rfl, List.append_nil]; exact HRn.out, HBn.out⟩
        case round =>
          obtain ⟨k, rfl, hk, hRk, hBk⟩ := hrel
          have HRk := Aside0.mk hRk
          have HBk := Aside0.mk hBk
          clear hRk hBk
          by_cases hkt : k < M
          · have e2 : decide ((k : Int) < (M : Int)) = true := decide_eq_true (by omega)
            have HCw := Aside0.mk (Kd.C_below HCo.out HBk.out)
            have go_ := (HBk.out.cell (p := ⟨w.heap.size + 1 + 1, 0, none⟩) (by show w.heap.size + 1 + 1 < W.heap.size; omega)).trans GO.out
            have gf_ := (HBk.out.cell (p := ⟨w.heap.size + 1, 0, none⟩) (by show w.heap.size + 1 < W.heap.size; omega)).trans GF.out
            have HLO := Aside0.mk hlo
            gi_wp2
            refine wpIn_wide.2 (wp_calm ?_)
            refine start_ (n := 10) (S := fun w' => w'.cell? ⟨w.heap.size + 1 + 1, 0, none⟩ = some (.slice Ao xs.length co) ∧ w'.cell? ⟨w.heap.size + 1, 0, none⟩ = some (.int .i64 fr)) (ds := []) #[false, false, false, false, false, false, false, false, false, false] (by kernel_rfl) rfl rfl ⟨go_, gf_⟩ (fun hHeld => ?_); refine with_tabW drawRg.tab14 drawRg.bits14 (fun HT_ HW_ => ?_)
            refine pu 0 (some 41) ?_ HT_ rfl rfl (by kernel_rfl) (fun _ _ _ h => h) (Or.inl ⟨by rfl, ?_⟩) ?_ ?_ ?_
            rotate_left
            · intro w'; go_simp; with_reducible rfl
            rotate_left
            · simp only [Act.put, sA, sB, sC, i64_w]; rfl
            refine pu 2 (some 43) ?_ HT_ rfl rfl (by kernel_rfl) (fun _ _ _ h => h) (Or.inl ⟨by rfl, ?_⟩) ?_ ?_ ?_
            rotate_left
            · intro w'; go_simp; with_reducible rfl
            rotate_left
            · simp only [Act.put, sA, sB, sC, i64_w]; rfl
            refine pu 3 (some 44) ?_ HT_ rfl rfl (by kernel_rfl) (fun _ _ _ h => h) (Or.inl ⟨by rfl, ?_⟩) ?_ ?_ ?_
            rotate_left
            · intro w'; go_simp; with_reducible rfl
            rotate_left
            · simp only [Act.put, sA, sB, sC, i64_w]; rfl
            refine pu 4 (some 45) ?_ HT_ rfl rfl (by kernel_rfl) (fun _ _ _ h => h) (Or.inl ⟨by rfl, ?_⟩) ?_ ?_ ?_
            rotate_left
            · intro w'; go_simp; with_reducible rfl
            rotate_left
            · simp only [Act.put, sA, sB, sC, i64_w]; rfl
            refine tk 1 (some 42) ?_ HT_ HW_ rfl rfl (by kernel_rfl) (fun _ _ _ h => h) (Or.inl ⟨by rfl, ?_⟩) hHeld ?_ ?_ ?_
            rotate_left
            · rintro w' ⟨s0, s1⟩; go_simp; with_reducible rfl
            rotate_left
            · simp only [Act.put, sA, sB, sC, i64_w]; rfl
            refine on 5 (some 46) HT_ rfl rfl (by kernel_rfl) (by decide) (fun K hK => ?_)
            refine call_ 32 #[.int .i64 (k : Int), .pointer (some ⟨w.heap.size + 1, 0, none⟩)] (by rfl) rfl (by (have he := (fun w => enters_ Tryd.func32 (by kernel_rfl) rfl #[.int .i64 (k : Int), .pointer (some ⟨w.heap.size + 1, 0, none⟩)] w)); unfold execOp; simp [resolve, Deferred.ofValue, invoke, Act.eval, he]) ?_
            with_reducible refine (time_calls fr (k : Int) (w.heap.size + 1) _ hHeld.2).mono ?_
            rintro ev w5 ⟨rfl, rfl⟩
            refine ⟨_, rfl, ?_⟩
            refine hK.out _ _ ⟨hHeld.1, hHeld.2⟩ (fun hHeld => ?_)
            clear hK K
            refine norm_ (a' := ?_) ?_ ?_
            rotate_left
            · show Act.put _ (some 46) _ = _; simp only [Act.put, sA, sB, sC, i64_w]; rfl
            refine on 6 (some 47) HT_ rfl rfl (by kernel_rfl) (by decide) (fun K hK => ?_)
            refine goes_ Tryd.func33 (by kernel_rfl) rfl #[.slice Ao xs.length co, .int .i64 (n : Int), .int .i64 (timeI fr (k : Int))] (by rfl) rfl rfl (by (try simp only [List.map_toArray, List.map_cons, List.map_nil]); first | done | rfl | (simp only [List.length_drop, List.length_take]; rfl)) ?_
            with_reducible refine (cell_calls Ao co xs (n : Int) (timeI fr (k : Int)) _ (by omega) HLO.out (Kd.C_drew HCw.out)).mono ?_
            rintro ev w6 ⟨rfl, hb6⟩
            have u0 := below_cell1 hb6 hHeld.1
            have u1 := below_cell1 hb6 hHeld.2
            have HB6 := Aside0.mk ((below_drew1 (Below.refl wr.heap.size wr)).trans hb6)
            refine ⟨_, rfl, ?_⟩
            refine hK.out _ _ ⟨u0, u1⟩ (fun hHeld => ?_)
            clear hK K
            refine norm_ (a' := ?_) ?_ ?_
            rotate_left
            · show Act.put _ (some 47) _ = _; simp only [Act.put, sA, sB, sC, i64_w]; rfl
            refine on 7 (some 48) HT_ rfl rfl (by kernel_rfl) (by decide) (fun K hK => ?_)
            refine value_ (w1 := w6.alloc (.cells #[.int .u8 (cellC xs (n : Int) (timeI fr (k : Int)))] 5)) (v := .slice (some ⟨w6.heap.size, 0, none⟩) 1 1) (by rfl) rfl (by go_simp; first | done | exact ⟨rfl, rfl⟩ | rfl) ?_
            have hb7 : Below w6.heap.size w6 (w6.alloc (.cells #[.int .u8 (cellC xs (n : Int) (timeI fr (k : Int)))] 5)) := (Below.refl _ w6).alloc (Nat.le_refl _) _
            refine hK.out _ _ ⟨below_cell1 hb7 u0, below_cell1 hb7 u1⟩ (fun hHeld => ?_)
            clear hK K
            refine norm_ (a' := ?_) ?_ ?_
            rotate_left
            · show Act.put _ (some 48) _ = _; simp only [Act.put, sA, sB, sC, i64_w]; rfl
            refine on 8 (some 49) HT_ rfl rfl (by kernel_rfl) (by decide) (fun K hK => ?_)
            refine Kd.R_append_step (Kd.int .u8) (w0 := W) W.heap.size (by rfl) (.tmp 41) (.tmp 48) 23 5 (.int .u8 0) 1 rfl Tryd.underlying23 info5 rfl (by decide) (by omega) u14 (drawTo xs fr M n ++ drawRow xs fr (n : Int) k) (cellC xs (n : Int) (timeI fr (k : Int))) [.int .u8 (cellC xs (n : Int) (timeI fr (k : Int)))] (fun _ => True) (fun _ => False) rfl rfl (show Kd.M (Kd.int .u8) _ _ _ _ [_] from rfl) (fun _ h => h.elim) (fun _ _ => trivial) ?hO ?hB ?hS ?hL ?_
            (case hO => exact Kd.R_below HRk.out HB6.out)
            (case hB => exact below_step HBk.out HB6.out)
            (case hS => have h1 := HBk.out.size; have h2 := HB6.out.size; omega)
            (case hL => rw [List.length_append, drawTo_length, drawRow_length]; have := HNM.out; omega)
            intro v9 w9 hR9 hB9 hg9 hat9
            refine hK.out _ _ ⟨(hB9.cell (p := ⟨w.heap.size + 1 + 1, 0, none⟩) (by show w.heap.size + 1 + 1 < W.heap.size; omega)).trans GO.out, (hB9.cell (p := ⟨w.heap.size + 1, 0, none⟩) (by show w.heap.size + 1 < W.heap.size; omega)).trans GF.out⟩ (fun hHeld => ?_)
            clear hK K
            refine norm_ (a' := ?_) ?_ ?_
            rotate_left
            · show Act.put _ (some 49) _ = _; simp only [Act.put, sA, sB, sC, i64_w]; rfl
            refine pu 9 (some 14) ?_ HT_ rfl rfl (by kernel_rfl) (fun _ _ _ h => h) (Or.inl ⟨by rfl, ?_⟩) ?_ ?_ ?_
            rotate_left
            · intro w'; go_simp; with_reducible rfl
            rotate_left
            · simp only [Act.put, sA, sB, sC, i64_w]; rfl
            refine done_ (done_of HT_.out (by kernel_rfl)) ?_
            dsimp only [calmQ]
            clear HCw HLO go_ gf_
            gi_wp2
            go_roundw
            case rel => exact ⟨k + 1, by go_num, by omega, by rw [drawRow_succ, ← List.append_assoc]; exact hR9, hB9⟩
            case measure => simp [natV]; omega
          · obtain rfl : k = M := by omega
            have e2 : decide ((k : Int) < (k : Int)) = false := decide_eq_false (by omega)
            have hr1 := HRk.out.2
            obtain ⟨inner, hown, hrp⟩ := hr1
            have HRP := Aside0.mk hrp
            have HOW := Aside0.mk hown
            obtain ⟨Av, cv, rfl⟩ := Kd.R_slice HRk.out
            obtain ⟨L, hL⟩ : ∃ L, drawTo xs fr k n ++ drawRow xs fr (n : Int) k = L := ⟨_, rfl⟩
            have hLl : L.length ≤ 70000 := by rw [← hL, List.length_append, drawTo_length, drawRow_length]; have := HNM.out; omega
            rw [hL] at HRP HOW
            have HL := Aside0.mk hL
            obtain ⟨i0, hi0, hz0, hz1, hz2⟩ := info_parts info5
            have HI0 := Aside0.mk hi0
            have HZ0 := Aside0.mk hz0
            have HZ1 := Aside0.mk hz1
            have HZ2 := Aside0.mk hz2
            clear hown hrp hi0 hz0 hz1 hz2
            rw [hL]
            clear hL
            gi_wp2_with (gi_at_builtin; refine wpListIn_append_own _ rfl (.tmp 51) (.tmp 52) 23 rfl W.heap.size 5 i0 (.int .u8 0) 1 1 Tryd.underlying23 HI0.out HZ0.out HZ1.out HZ2.out rfl (by decide) (.slice Av L.length cv) L.length inner rfl (HOW.out.alloc _) ⟨wr.heap.size, 0, none⟩ 1 1 [.int .u8 10] rfl rfl ?c1 ?c2 ?c3 ?c4 ?c5 ?_; (case c1 => simpa using World.news_of_block (cs := #[.int .u8 10]) (t := 5) (fr := (0, 0)) (heap_alloc_new wr (.cells #[.int .u8 10] 5))); (case c2 => intro u hu; simp at hu; subst hu; rfl); (case c3 => simp only [maxLen]; omega); (case c4 => omega); (case c5 => rw [World.size_alloc]; have := HBk.out.size; omega); intro v9 w9 hown9 hg9 hnil9)
            have hR9 := R_moreB HRP.out hown9
            have hB9 : Below W.heap.size W w9 := (HBk.out.alloc HBk.out.size (.cells #[.int .u8 10] 5)).grown hg9 (by rw [World.size_alloc]; have := HBk.out.size; omega) (own_base HOW.out)
            go_roundw
            case rel => exact ⟨n + 1, by go_num, by omega, by rw [drawTo_succ, ← List.append_assoc, HL.out]; exact hR9, hB9⟩
            case measure => simp [natV]; omega
      · obtain rfl : n = N := by omega
        have e1 : decide ((n : Int) < (n : Int)) = false := decide_eq_false (by omega)
        obtain ⟨Av, cv, rfl, hlv, hCv⟩ := Kd.R_reads HRn.out
        obtain ⟨L, hL⟩ : ∃ L, drawTo xs fr M n = L := ⟨_, rfl⟩
        have hcv := Kd.C_string (P := Tryd.prog) (A := Av) (c := cv) Tryd.underlying23 Tryd.underlying5 Tryd.underlying9 hCv
        rw [hL] at hcv ⊢
        have HL := Aside0.mk hL
        have HJ := HRES.out
        rw [hL] at HJ
        have HJJ := Aside0.mk HJ
        clear hL hCv hlv HJ
        gi_wp2
        have hK2 : wr.heap[D]? = some (Obj.deferred (some [])) := (HBn.out.block D (blk_lt HK.out)).trans HK.out
        refine ⟨by simp, .inl ⟨_, _, rfl, run_takeDeferred hK2, ?_⟩⟩
        have hB3 := (HB.out.trans (HBn.out.mono HB.out.size)).trans (belowK_b (w := w) (Nat.le_refl _) _ D _ (.deferred none) (by omega) hK2 rfl rfl)
        refine ⟨.string (strOfNums L), ?_, by rw [HJJ.out], hB3⟩
        simp [results, Tryd.f14, go_sem]
  case stop =>
    rintro D c pre W hD hpre h
    exact h.elim
end Go.Proofs.YtdpomgfibjlehaaDoor.Tr

set_option linter.unusedVariables false
set_option linter.unusedSimpArgs false
namespace Go.Proofs.YtdpomgfibjlehaaDoor.PTr
open Go Go.Proofs Go.RowKit Go.Proofs.YtdpomgfibjlehaaDoorW.PrintWords Go.Proofs.YtdpomgfibjlehaaDoorW.PrintLast Go.Proofs.YtdpomgfibjlehaaDoorW.PrintMore
/-- trace.Busy and trace.Draw, for the print -/
def trace_Busy.f (l : List S46) (part at_ : Int) : Option Int := if l.length < 1099511627776 then bits_Set_Len.f (Tr.busyU part at_ (Tr.rowsL l)) else none
theorem trace_Busy.calls (A0 : Option Addr) (c0 : Nat) (l0 : List S46) (a1 a2 : Int) (r : Int) (w : World) (hr0 : Kd.C k46 w A0 l0.length l0) (hc0 : l0.length ≤ c0) (h : trace_Busy.f l0 a1 a2 = some r) :
    Calls Tryd.prog 16 #[.slice A0 l0.length c0, .int .i64 a1, .int .i64 a2] w fun e w' => e = .returned (.int .i64 r) ∧ Below w.heap.size w w' := by
  unfold trace_Busy.f at h
  split at h
  · exact Tr.busy_calls A0 c0 l0 a1 a2 w (by omega) hc0 hr0 r h
  · cases h
def trace_Draw.f (l : List S46) (part nodes fr many : Int) : Option ByteArray := if l.length < 1099511627776 then some (strOfNums (Tr.drawL l part nodes fr many)) else none
theorem trace_Draw.calls (A0 : Option Addr) (c0 : Nat) (l0 : List S46) (a1 a2 a3 a4 : Int) (r : ByteArray) (w : World) (hr0 : Kd.C k46 w A0 l0.length l0) (hc0 : l0.length ≤ c0) (h : trace_Draw.f l0 a1 a2 a3 a4 = some r) :
    Calls Tryd.prog 14 #[.slice A0 l0.length c0, .int .i64 a1, .int .i64 a2, .int .i64 a3, .int .i64 a4] w fun e w' => e = .returned (.string r) ∧ Below w.heap.size w w' := by
  unfold trace_Draw.f at h
  split at h
  · rename_i hn
    obtain rfl := Option.some.inj h
    exact Tr.draw_calls A0 c0 l0 a1 a2 a3 a4 w hn hc0 hr0
  · cases h
end Go.Proofs.YtdpomgfibjlehaaDoor.PTr
