/-
 Arguments that came in, read as the print's kinds: a number, a struct, a slice of whatever is read so. Conditions: none beyond the form's own.
-/
import Derived.Test.YtlddccmgamlccaaUW
import Derived.Deep.Slices
import Derived.Deep.Fields
import Derived.ChangeArms
import Derived.ChangeOld
import Derived.Test.YtlddccmgamlccaaUE
import Derived.OpenShut
namespace Go.Proofs.Ytlddccmgamlccaa.ArgOpen
open Go.RowKit Go.ChangeShapes Go.WideShapes Go.Deep Go.Proofs.YtlddccmgamlccaaW.PrintWords Go.Proofs.YtlddccmgamlccaaW.PrintLast Go.Proofs.YtlddccmgamlccaaW.PrintMore
variable {H : Type} {enc : TypeId × Value → H} {P : Program} {w : World} {t e : TypeId}

/-- What reads at type t is a value of the kind d, and Q holds of it. -/
def Opens {H : Type} (enc : TypeId × Value → H) (P : Program) (w : World) {α : Type} (t : TypeId) (d : Kd α) (Q : α → Prop) : Prop :=
 ∀ (fuel : Nat) (cs : List Value) (x : DataW H × List MemPlace), DataW.trod enc P w 0 (fun _ => true) true fuel t cs = some x → ∃ y, d.K w y cs ∧ Q y

theorem opens_int {k : IntKind} (ht : P.underlying t = some (.int k)) : Opens enc P w t (Kd.int k) (fun n => (Lit.int k n).wf = true) := by
 intro fuel cs x h
 obtain ⟨n, rfl, _, hw⟩ := DataW.trod_int ht h
 exact ⟨n, rfl, hw⟩

/-- A slice of what opens. -/
theorem opens_row {α : Type} {d : Kd α} {Q : α → Prop} (ht : P.underlying t = some (.slice e)) (hd : Opens enc P w e d Q) (hsz : P.cellsOf e = d.sz) (z : α) {a : Option Addr} {len cap : Nat} {dd : DataW H} {ps : List MemPlace}
  (h : DataW.Trod enc P w 0 (fun _ => true) true t (.slice a len cap) dd ps) : ∃ ys : List α, ys.length = len ∧ len ≤ cap ∧ d.C w a len ys ∧ ∀ y ∈ ys, Q y := by
 obtain ⟨fuel, hf⟩ := h
 rcases open_slice ht hf with ⟨hcs, _⟩ | ⟨a', len', cap', m, n, D, Pl, hcs, _, hl, hm, hmm, _, hi⟩
 ·simp [Value.cells] at hcs
  obtain ⟨rfl, rfl, rfl⟩ := hcs
  exact ⟨[], rfl, Nat.le_refl _, ⟨rfl, by omega, fun h0 => by omega⟩, by simp⟩
 ·simp [Value.cells] at hcs
  obtain ⟨rfl, rfl, rfl⟩ := hcs
  have hlm : len ≤ m := by rw [hmm]; split <;> omega
  have hex : ∀ i, ∃ y : α, i < len → (∃ c, c.length = d.sz ∧ d.K w y c ∧ ∀ j u, c[j]? = some u → w.cell? (a'.add (i * d.sz + j)) = some u) ∧ Q y := by
   intro i
   by_cases hil : i < len
   ·obtain ⟨cs', hc, htr⟩ := hi i (by omega)
    rw [hsz] at hc
    obtain ⟨y, hK, hQ⟩ := hd n cs' _ htr
    obtain ⟨_, hcl, hat⟩ := World.cells?_some hc
    refine ⟨y, fun _ => ⟨⟨cs', d.K_len hK, hK, fun j u hu => ?_⟩, hQ⟩⟩
    have hjl : j < cs'.length := (List.getElem?_eq_some_iff.1 hu).1
    have := hat j (by rw [← d.K_len hK]; exact hjl)
    rw [Go.Deep.add_add] at this
    rw [this, hu]
   ·exact ⟨z, fun h => absurd h hil⟩
  refine ⟨(List.range len).map fun i => Classical.choose (hex i), by simp, hl, ⟨by simp, by unfold maxLen at hm; omega, fun _ => ⟨a', rfl, fun j p hj => ?_⟩⟩, fun y hy => ?_⟩
  ·have hjl : j < len := by have := (List.getElem?_eq_some_iff.1 hj).1; simpa using this
   have hp : Classical.choose (hex j) = p := by simpa [hjl] using hj
   rw [← hp]
   exact (Classical.choose_spec (hex j) hjl).1
  ·obtain ⟨i, hi', rfl⟩ := List.mem_map.1 hy
   exact (Classical.choose_spec (hex i) (List.mem_range.1 hi')).2

/-- A struct of two fields of one cell. -/
theorem opens_two {f0 f1 : Field} {fuel : Nat} {cs : List Value} {x : DataW H × List MemPlace} (hs : P.underlying t = some (.struct #[f0, f1])) (hone : oneCellFields P #[f0, f1] = true) (hC : P.cellsOf t = 2)
  (h : DataW.trod enc P w 0 (fun _ => true) true fuel t cs = some x) : ∃ (c0 c1 : Value) (n : Nat) (y0 y1 : DataW H × List MemPlace), cs = [c0, c1] ∧ DataW.trod enc P w 0 (fun _ => true) true n f0.type [c0] = some y0 ∧ DataW.trod enc P w 0 (fun _ => true) true n f1.type [c1] = some y1 := by
 obtain ⟨xs, n, _, _, hlen, hxl, hg⟩ := DataW.trod_struct hs h
 rw [hC] at hlen
 match cs, hlen, xs, hxl with
 | [c0, c1], _, [y0, y1], _ =>
  obtain ⟨o0, k0⟩ := hone_of hone 0 f0 rfl
  obtain ⟨o1, k1⟩ := hone_of hone 1 f1 rfl
  exact ⟨c0, c1, n, y0, y1, rfl, by simpa [o0, k0] using hg 0 f0 rfl, by simpa [o1, k1] using hg 1 f1 rfl⟩

end Go.Proofs.Ytlddccmgamlccaa.ArgOpen

set_option linter.unusedVariables false
set_option linter.unusedSimpArgs false
namespace Go.Proofs.Ytlddccmgamlccaa.Us
open Go Go.Proofs Go.RowKit Go.Lib Go.Proofs.YtlddccmgamlccaaW.PrintWords Go.Proofs.YtlddccmgamlccaaW.PrintLast Go.Proofs.YtlddccmgamlccaaW.PrintMore

set_option maxRecDepth 100000 in
set_option maxHeartbeats 4000000 in
theorem fits_empty (pv : Option Addr) (a b v : Int) (w : World) (hab : clT a ≥ clT b) :
  Calls Try.prog 10 #[.pointer pv, .agg #[.int .i64 a, .int .i64 b], .int .i64 v] w fun ev w' => ev = .returned (.bool true) ∧ Below w.heap.size w w' := by
 have hb0 := (Below.refl w.heap.size w).alloc (Nat.le_refl _) (.cells #[.int .i64 a, .int .i64 b] 25 (0, 0))
 have n0 := blk_new w (.cells #[.int .i64 a, .int .i64 b] 25 (0, 0))
 have s0 : (w.alloc (.cells #[.int .i64 a, .int .i64 b] 25 (0, 0))).cell? ⟨w.heap.size, 0, none⟩ = some (.int .i64 a) := (blk_cell n0 0).trans rfl
 have s1 : (w.alloc (.cells #[.int .i64 a, .int .i64 b] 25 (0, 0))).cell? ⟨w.heap.size, 1, none⟩ = some (.int .i64 b) := (blk_cell n0 1).trans rfl
 have HB0 := Aside0.mk hb0
 have hE := empty_calls a b
 rw [decide_eq_true hab] at hE
 have HEM := Aside0.mk hE
 clear hb0 n0 hE hab
 go_enter Try.func10, Try.ntmps10
 go_wp2_with (fail)
 refine start_ (n := 11) (S := fun w' => w'.cell? ⟨w.heap.size, 0, none⟩ = some (.int .i64 a) ∧ w'.cell? ⟨w.heap.size, 1, none⟩ = some (.int .i64 b)) (ds := []) #[false, false, false, false, false, false, false, false, false, false, false] (by kernel_rfl) rfl rfl ⟨s0, s1⟩ (fun hHeld => ?_); refine with_tabW fitsR.tab1 fitsR.bits1 (fun HT_ HW_ => ?_)
 refine take_ (i := 0) (N := some 7) (v := ?_) (a' := ?_) #[true, false, false, false, false, false, false, false, false, false, false] rfl rfl (take_ofW HT_.out HW_.out (by kernel_rfl)) (fun _ _ _ h => h) (Or.inl ⟨by rfl, ?_⟩) hHeld ?_ ?_
 rotate_left
 ·rintro w' ⟨s0, s1⟩
  go_simp
  with_reducible rfl
 rotate_left
 ·simp only [Act.put, List.setIfInBounds_toArray, List.set_cons_zero, List.set_cons_succ, i64_w, i32_w]
  rfl
 refine one_ (i := 1) (N := some 8) #[true, true, false, false, false, false, false, false, false, false, false] rfl rfl (one_of HT_.out (by kernel_rfl)) (by decide) (fun K hK => ?_)
 refine goes_ Try.func28 (by kernel_rfl) rfl #[.agg #[.int .i64 a, .int .i64 b]] (by rfl) rfl rfl (by (try simp only [List.map_toArray, List.map_cons, List.map_nil]); first | done | rfl | (simp only [List.length_drop, List.length_take]; rfl)) ?_
 with_reducible refine (HEM.out _).mono ?_
 rintro ev w1 ⟨rfl, hb1⟩
 have u0 := below_cell1 hb1 s0
 have u1 := below_cell1 hb1 s1
 refine ⟨_, rfl, ?_⟩
 refine hK.out _ _ ⟨u0, u1⟩ (fun hHeld => ?_)
 clear hK K
 refine norm_ (a' := ?_) ?_ ?_
 rotate_left
 ·show Act.put _ (some 8) _ = _
  simp only [Act.put, List.setIfInBounds_toArray, List.set_cons_zero, List.set_cons_succ, i64_w, i32_w]
  rfl
 refine pure_ (i := 2) (N := some 9) (v := ?_) (a' := ?_) #[true, true, true, false, false, false, false, false, false, false, false] rfl rfl (any_of HT_.out (by kernel_rfl)) (fun _ _ _ h => h) (Or.inl ⟨by rfl, ?_⟩) ?_ ?_
 rotate_left
 ·intro w'
  go_simp
  with_reducible rfl
 rotate_left
 ·simp only [Act.put, List.setIfInBounds_toArray, List.set_cons_zero, List.set_cons_succ, i64_w, i32_w]
  rfl
 refine pure_ (i := 3) (N := some 10) (v := undef) (a' := ?_) #[true, true, true, true, false, false, false, false, false, false, false] rfl rfl (any_of HT_.out (by kernel_rfl)) (fun _ _ _ h => h) (Or.inr ⟨by rfl, rfl⟩) ?_ ?_
 rotate_left
 ·simp only [Act.put, List.setIfInBounds_toArray, List.set_cons_zero, List.set_cons_succ, i64_w, i32_w]
  rfl
 refine pure_ (i := 4) (N := some 11) (v := undef) (a' := ?_) #[true, true, true, true, true, false, false, false, false, false, false] rfl rfl (any_of HT_.out (by kernel_rfl)) (fun _ _ _ h => h) (Or.inr ⟨by rfl, rfl⟩) ?_ ?_
 rotate_left
 ·simp only [Act.put, List.setIfInBounds_toArray, List.set_cons_zero, List.set_cons_succ, i64_w, i32_w]
  rfl
 refine pure_ (i := 5) (N := some 12) (v := undef) (a' := ?_) #[true, true, true, true, true, true, false, false, false, false, false] rfl rfl (any_of HT_.out (by kernel_rfl)) (fun _ _ _ h => h) (Or.inr ⟨by rfl, rfl⟩) ?_ ?_
 rotate_left
 ·simp only [Act.put, List.setIfInBounds_toArray, List.set_cons_zero, List.set_cons_succ, i64_w, i32_w]
  rfl
 refine pure_ (i := 6) (N := some 13) (v := undef) (a' := ?_) #[true, true, true, true, true, true, true, false, false, false, false] rfl rfl (any_of HT_.out (by kernel_rfl)) (fun _ _ _ h => h) (Or.inr ⟨by rfl, rfl⟩) ?_ ?_
 rotate_left
 ·simp only [Act.put, List.setIfInBounds_toArray, List.set_cons_zero, List.set_cons_succ, i64_w, i32_w]
  rfl
 refine pure_ (i := 7) (N := some 14) (v := undef) (a' := ?_) #[true, true, true, true, true, true, true, true, false, false, false] rfl rfl (any_of HT_.out (by kernel_rfl)) (fun _ _ _ h => h) (Or.inr ⟨by rfl, rfl⟩) ?_ ?_
 rotate_left
 ·simp only [Act.put, List.setIfInBounds_toArray, List.set_cons_zero, List.set_cons_succ, i64_w, i32_w]
  rfl
 refine pure_ (i := 8) (N := some 15) (v := undef) (a' := ?_) #[true, true, true, true, true, true, true, true, true, false, false] rfl rfl (any_of HT_.out (by kernel_rfl)) (fun _ _ _ h => h) (Or.inr ⟨by rfl, rfl⟩) ?_ ?_
 rotate_left
 ·simp only [Act.put, List.setIfInBounds_toArray, List.set_cons_zero, List.set_cons_succ, i64_w, i32_w]
  rfl
 refine pure_ (i := 9) (N := some 16) (v := ?_) (a' := ?_) #[true, true, true, true, true, true, true, true, true, true, false] rfl rfl (any_of HT_.out (by kernel_rfl)) (fun _ _ _ h => h) (Or.inl ⟨by rfl, ?_⟩) ?_ ?_
 rotate_left
 ·intro w'
  go_simp
  with_reducible rfl
 rotate_left
 ·simp only [Act.put, List.setIfInBounds_toArray, List.set_cons_zero, List.set_cons_succ, i64_w, i32_w]
  rfl
 refine pure_ (i := 10) (N := some 6) (v := ?_) (a' := ?_) #[true, true, true, true, true, true, true, true, true, true, true] rfl rfl (any_of HT_.out (by kernel_rfl)) (fun _ _ _ h => h) (Or.inl ⟨by rfl, ?_⟩) ?_ ?_
 rotate_left
 ·intro w'
  go_simp
  with_reducible rfl
 rotate_left
 ·simp only [Act.put, List.setIfInBounds_toArray, List.set_cons_zero, List.set_cons_succ, i64_w, i32_w]
  rfl
 refine done_ (done_of HT_.out (by kernel_rfl)) ?_
 go_wp2
 go_ret
 exact ⟨rfl, below_step (below_drew1 HB0.out) hb1⟩

theorem and_mask (x : Int) (k : Nat) (hk : k < 4611686018427387904) : 0 ≤ bits .and .i64 x (k : Int) ∧ bits .and .i64 x (k : Int) ≤ k := by
 unfold bits
 have h1 : (BitVec.ofInt IntKind.i64.bits (k : Int)).toNat = k := by
  show (BitVec.ofInt 64 (k : Int)).toNat = k
  rw [BitVec.ofInt_natCast, BitVec.toNat_ofNat]
  exact Nat.mod_eq_of_lt (by omega)
 dsimp only
 rw [BitVec.toNat_and, h1]
 have h2 := Nat.and_le_right (n := (BitVec.ofInt IntKind.i64.bits x).toNat) (m := k)
 rw [IntKind.wrap_i64]
 omega

/-! ### arguments that came in -/
open Go.ChangeShapes Go.WideShapes Go.Deep Go.Proofs.Ytlddccmgamlccaa.ArgOpen
theorem opensSpan {H : Type} {enc : TypeId × Value → H} {w : World} {fuel : Nat} {cs : List Value} {x : DataW H × List MemPlace} (h : DataW.trod enc Try.prog w 0 (fun _ => true) true fuel 25 cs = some x) : ∃ a b : Int, cs = [.int .i64 a, .int .i64 b] := by
 obtain ⟨c0, c1, n, y0, y1, rfl, h0, h1⟩ := opens_two Try.underlying25 (by kernel_rfl) (by kernel_rfl) h
 obtain ⟨a, e0, _, _⟩ := DataW.trod_int Try.underlying23 h0
 obtain ⟨b, e1, _, _⟩ := DataW.trod_int Try.underlying23 h1
 simp only [List.cons.injEq, and_true] at e0 e1
 subst e0 e1
 exact ⟨a, b, rfl⟩
set_option maxRecDepth 100000 in
theorem opensAct {H : Type} {enc : TypeId × Value → H} {w : World} : Opens enc Try.prog w 67 kAct (fun _ => True) := by
 intro fuel cs x h
 obtain ⟨xs, n, _, _, hlen, hxl, hg⟩ := DataW.trod_struct Try.underlying67 h
 have h4 : Try.prog.cellsOf 67 = 4 := by kernel_rfl
 have hi : Try.prog.cellsOf 3 = 1 := by kernel_rfl
 have hs : Try.prog.cellsOf 25 = 2 := by kernel_rfl
 rw [h4] at hlen
 match cs, hlen, xs, hxl with
 | [c0, c1, c2, c3], _, [y0, y1, y2], _ =>
  have g0 : DataW.trod enc Try.prog w 0 (fun _ => true) true n 3 (List.take (Try.prog.cellsOf 3) (List.drop 0 [c0, c1, c2, c3])) = some y0 := hg 0 _ rfl
  have g1 : DataW.trod enc Try.prog w 0 (fun _ => true) true n 25 (List.take (Try.prog.cellsOf 25) (List.drop 1 [c0, c1, c2, c3])) = some y1 := hg 1 _ rfl
  have g2 : DataW.trod enc Try.prog w 0 (fun _ => true) true n 3 (List.take (Try.prog.cellsOf 3) (List.drop 3 [c0, c1, c2, c3])) = some y2 := hg 2 _ rfl
  rw [hi] at g0 g2
  rw [hs] at g1
  obtain ⟨k, e0, _, _⟩ := DataW.trod_int Try.underlying3 g0
  obtain ⟨a, b, e1⟩ := opensSpan g1
  obtain ⟨m, e2, _, _⟩ := DataW.trod_int Try.underlying3 g2
  simp at e0 e1 e2
  obtain ⟨rfl, rfl⟩ := e1
  subst e0 e2
  exact ⟨⟨k, a, b, m⟩, kAct_mk w ⟨k, a, b, m⟩, trivial⟩
set_option maxRecDepth 100000 in
theorem opensAsk {H : Type} {enc : TypeId × Value → H} {w : World} {fuel : Nat} {cs : List Value} {x : DataW H × List MemPlace} (h : DataW.trod enc Try.prog w 0 (fun _ => true) true fuel 27 cs = some x) :
  ∃ f m v a b : Int, cs = [.int .i64 f, .int .i64 m, .int .i64 v, .int .i64 a, .int .i64 b] ∧ (Lit.int .i64 v).wf = true := by
 obtain ⟨xs, n, _, _, hlen, hxl, hg⟩ := DataW.trod_struct Try.underlying27 h
 have h4 : Try.prog.cellsOf 27 = 5 := by kernel_rfl
 have hi : Try.prog.cellsOf 3 = 1 := by kernel_rfl
 have ht : Try.prog.cellsOf 23 = 1 := by kernel_rfl
 have hs : Try.prog.cellsOf 25 = 2 := by kernel_rfl
 rw [h4] at hlen
 match cs, hlen, xs, hxl with
 | [c0, c1, c2, c3, c4], _, [y0, y1, y2, y3], _ =>
  have g0 : DataW.trod enc Try.prog w 0 (fun _ => true) true n 23 (List.take (Try.prog.cellsOf 23) (List.drop 0 [c0, c1, c2, c3, c4])) = some y0 := hg 0 _ rfl
  have g1 : DataW.trod enc Try.prog w 0 (fun _ => true) true n 23 (List.take (Try.prog.cellsOf 23) (List.drop 1 [c0, c1, c2, c3, c4])) = some y1 := hg 1 _ rfl
  have g2 : DataW.trod enc Try.prog w 0 (fun _ => true) true n 3 (List.take (Try.prog.cellsOf 3) (List.drop 2 [c0, c1, c2, c3, c4])) = some y2 := hg 2 _ rfl
  have g3 : DataW.trod enc Try.prog w 0 (fun _ => true) true n 25 (List.take (Try.prog.cellsOf 25) (List.drop 3 [c0, c1, c2, c3, c4])) = some y3 := hg 3 _ rfl
  rw [ht] at g0 g1
  rw [hi] at g2
  rw [hs] at g3
  obtain ⟨f, e0, _, _⟩ := DataW.trod_int Try.underlying23 g0
  obtain ⟨m, e1, _, _⟩ := DataW.trod_int Try.underlying23 g1
  obtain ⟨v, e2, _, hw⟩ := DataW.trod_int Try.underlying3 g2
  obtain ⟨a, b, e3⟩ := opensSpan g3
  simp at e0 e1 e2 e3
  obtain ⟨rfl, rfl⟩ := e3
  subst e0 e1 e2
  exact ⟨f, m, v, a, b, rfl, hw⟩
end Go.Proofs.Ytlddccmgamlccaa.Us
