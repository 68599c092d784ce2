/- What reads as a view is one. Conditions: those that each theorem states. -/
import Derived.Test.YtkbjlaknhedekaaDoorAu11
import Derived.Deep.Slices
import Derived.Deep.Fields
import Derived.ChangeArms
import Derived.ChangeOld
set_option linter.unusedVariables false
set_option linter.unusedSimpArgs false
/- What reads as a view is one. -/
namespace Go.Proofs.YtkbjlaknhedekaaDoor.ViewOpen
open Go Go.Proofs Go.RowKit Go.ChangeShapes Go.WideShapes Go.Deep Go.Proofs.YtkbjlaknhedekaaDoorW.PrintWords Go.Proofs.YtkbjlaknhedekaaDoorW.PrintLast Go.Proofs.YtkbjlaknhedekaaDoorW.PrintMore Go.Proofs.YtkbjlaknhedekaaDoor.PAuditNames
variable {H : Type} {enc : TypeId × Value → H} {P : Program} {w : World} {t e : TypeId}
/-- What reads at type t is a value of the kind d. -/
def Opens {H : Type} (enc : TypeId × Value → H) (P : Program) (w : World) {α : Type} (t : TypeId) (d : Kd α) : Prop :=
  ∀ (fuel : Nat) (cs : List Value) (x : DataW H × List MemPlace), DataW.trod enc P w 0 (fun _ => true) true fuel t cs = some x → ∃ y, d.K w y cs
/-- A slice of what opens. -/
theorem opens_row {α : Type} {d : Kd α} (ht : P.underlying t = some (.slice e)) (hd : Opens enc P w e d) (hsz : P.cellsOf e = d.sz) (z : α) {fuel : Nat} {v : Value} {x : DataW H × List MemPlace}
    (hf : DataW.trod enc P w 0 (fun _ => true) true fuel t [v] = some x) : ∃ (a : Option Addr) (cap : Nat) (ys : List α), v = .slice a ys.length cap ∧ ys.length ≤ cap ∧ d.C w a ys.length ys := by
  rcases open_slice ht hf with ⟨hcs, _⟩ | ⟨a', len', cap', m, n, D, Pl, hcs, _, hl, hm, hmm, _, hi⟩
  · simp at hcs
    subst hcs
    exact ⟨none, 0, [], rfl, Nat.le_refl _, ⟨rfl, by simp, fun h0 => by simp at h0⟩⟩
  · simp at hcs
    subst hcs
    have hlm : len' ≤ m := by rw [hmm]; split <;> omega
    have hex : ∀ i, ∃ y : α, i < len' → ∃ c, c.length = d.sz ∧ d.K w y c ∧ ∀ j u, c[j]? = some u → w.cell? (a'.add (i * d.sz + j)) = some u := by
      intro i
      by_cases hil : i < len'
      · obtain ⟨cs', hc, htr⟩ := hi i (by omega)
        rw [hsz] at hc
        obtain ⟨y, hK⟩ := hd n cs' _ htr
        obtain ⟨_, hcl, hat⟩ := World.cells?_some hc
        refine ⟨y, fun _ => ⟨cs', d.K_len hK, hK, fun j u hu => ?_⟩⟩
        have hjl : j < cs'.length := (List.getElem?_eq_some_iff.1 hu).1
        have := hat j (by rw [← d.K_len hK]; exact hjl)
        rw [Go.Deep.add_add] at this
        rw [this, hu]
      · exact ⟨z, fun h => absurd h hil⟩
    have hlen : ((List.range len').map fun i => Classical.choose (hex i)).length = len' := by simp
    refine ⟨some a', cap', (List.range len').map fun i => Classical.choose (hex i), by rw [hlen], by rw [hlen]; exact hl, ⟨rfl, by rw [hlen]; unfold maxLen at hm; omega, fun _ => ⟨a', rfl, fun j p hj => ?_⟩⟩⟩
    have hjl : j < len' := by have := (List.getElem?_eq_some_iff.1 hj).1; simpa using this
    have hp : Classical.choose (hex j) = p := by simpa [hjl] using hj
    rw [← hp]
    exact Classical.choose_spec (hex j) hjl
theorem open_sl (ht : P.underlying t = some (.slice e)) {fuel : Nat} {v : Value} {x : DataW H × List MemPlace}
    (hf : DataW.trod enc P w 0 (fun _ => true) true fuel t [v] = some x) : ∃ (a : Option Addr) (n cap : Nat), v = .slice a n cap := by
  rcases open_slice ht hf with ⟨hcs, _⟩ | ⟨a', len', cap', m, n, D, Pl, hcs, _⟩
  · simp at hcs
    exact ⟨_, _, _, hcs⟩
  · simp at hcs
    exact ⟨_, _, _, hcs⟩
theorem cells3 : Tryd.prog.cellsOf 3 = 1 := by kernel_rfl
theorem cells4 : Tryd.prog.cellsOf 4 = 1 := by kernel_rfl
theorem cells22 : Tryd.prog.cellsOf 22 = 1 := by kernel_rfl
theorem cells23 : Tryd.prog.cellsOf 23 = 1 := by kernel_rfl
theorem cells24 : Tryd.prog.cellsOf 24 = 1 := by kernel_rfl
theorem cells26 : Tryd.prog.cellsOf 26 = 1 := by kernel_rfl
theorem cells28 : Tryd.prog.cellsOf 28 = 4 := by kernel_rfl
theorem cells30 : Tryd.prog.cellsOf 30 = 10 := by kernel_rfl
theorem cells33 : Tryd.prog.cellsOf 33 = 3 := by kernel_rfl
theorem opens33 {H : Type} {enc : TypeId × Value → H} {w : World} : Opens enc Tryd.prog w 33 k33 := by
  intro fuel cs x h
  obtain ⟨xs, n, _, _, hlen, hxl, hg⟩ := DataW.trod_struct Tryd.underlying33 h
  rw [cells33] at hlen
  match cs, hlen, xs, hxl with
  | [c0, c1, c2], _, [y0, y1, y2], _ =>
    have g0 : DataW.trod enc Tryd.prog w 0 (fun _ => true) true n 3 (List.take (Tryd.prog.cellsOf 3) (List.drop 0 [c0, c1, c2])) = some y0 := hg 0 _ rfl
    rw [cells3] at g0
    have g1 : DataW.trod enc Tryd.prog w 0 (fun _ => true) true n 3 (List.take (Tryd.prog.cellsOf 3) (List.drop 1 [c0, c1, c2])) = some y1 := hg 1 _ rfl
    rw [cells3] at g1
    have g2 : DataW.trod enc Tryd.prog w 0 (fun _ => true) true n 3 (List.take (Tryd.prog.cellsOf 3) (List.drop 2 [c0, c1, c2])) = some y2 := hg 2 _ rfl
    rw [cells3] at g2
    obtain ⟨z0, e0, _, u0⟩ := DataW.trod_int Tryd.underlying3 g0
    obtain ⟨z1, e1, _, u1⟩ := DataW.trod_int Tryd.underlying3 g1
    obtain ⟨z2, e2, _, u2⟩ := DataW.trod_int Tryd.underlying3 g2
    simp at e0 e1 e2
    subst e0 e1 e2
    exact ⟨⟨z0, z1, z2⟩, k33_mk w ⟨z0, z1, z2⟩⟩
set_option maxRecDepth 100000 in
theorem open_view {H : Type} {enc : TypeId × Value → H} {w : World} {fuel : Nat} {cs : List Value} {x : DataW H × List MemPlace} (h : DataW.trod enc Tryd.prog w 0 (fun _ => true) true fuel 30 cs = some x) :
    ∃ (now part : Int) (A : Option Addr) (c : Nat) (l : List S33) (AJ : Option Addr) (nJ cJ : Nat) (r0 r1 r2 r3 : Int) (rolls : Bool) (ret : Int), cs = [.int .i64 now, .int .i64 part, .slice A l.length c, .slice AJ nJ cJ, .int .i64 r0, .int .i64 r1, .int .u64 r2, .int .u64 r3, .bool rolls, .int .i64 ret] ∧ l.length ≤ c ∧ Kd.C k33 w A l.length l := by
  obtain ⟨xs, n, _, _, hlen, hxl, hg⟩ := DataW.trod_struct Tryd.underlying30 h
  rw [cells30] at hlen
  match cs, hlen, xs, hxl with
  | [c0, c1, c2, c3, c4, c5, c6, c7, c8, c9], _, [y0, y1, y2, y3, y4, y5, y6], _ =>
    have g0 : DataW.trod enc Tryd.prog w 0 (fun _ => true) true n 22 (List.take (Tryd.prog.cellsOf 22) (List.drop 0 [c0, c1, c2, c3, c4, c5, c6, c7, c8, c9])) = some y0 := hg 0 _ rfl
    rw [cells22] at g0
    have g1 : DataW.trod enc Tryd.prog w 0 (fun _ => true) true n 3 (List.take (Tryd.prog.cellsOf 3) (List.drop 1 [c0, c1, c2, c3, c4, c5, c6, c7, c8, c9])) = some y1 := hg 1 _ rfl
    rw [cells3] at g1
    have g2 : DataW.trod enc Tryd.prog w 0 (fun _ => true) true n 23 (List.take (Tryd.prog.cellsOf 23) (List.drop 2 [c0, c1, c2, c3, c4, c5, c6, c7, c8, c9])) = some y2 := hg 2 _ rfl
    rw [cells23] at g2
    have g3 : DataW.trod enc Tryd.prog w 0 (fun _ => true) true n 24 (List.take (Tryd.prog.cellsOf 24) (List.drop 3 [c0, c1, c2, c3, c4, c5, c6, c7, c8, c9])) = some y3 := hg 3 _ rfl
    rw [cells24] at g3
    have g4 : DataW.trod enc Tryd.prog w 0 (fun _ => true) true n 28 (List.take (Tryd.prog.cellsOf 28) (List.drop 4 [c0, c1, c2, c3, c4, c5, c6, c7, c8, c9])) = some y4 := hg 4 _ rfl
    rw [cells28] at g4
    have g5 : DataW.trod enc Tryd.prog w 0 (fun _ => true) true n 4 (List.take (Tryd.prog.cellsOf 4) (List.drop 8 [c0, c1, c2, c3, c4, c5, c6, c7, c8, c9])) = some y5 := hg 5 _ rfl
    rw [cells4] at g5
    have g6 : DataW.trod enc Tryd.prog w 0 (fun _ => true) true n 3 (List.take (Tryd.prog.cellsOf 3) (List.drop 9 [c0, c1, c2, c3, c4, c5, c6, c7, c8, c9])) = some y6 := hg 6 _ rfl
    rw [cells3] at g6
    have g4' : DataW.trod enc Tryd.prog w 0 (fun _ => true) true n 28 [c4, c5, c6, c7] = some y4 := g4
    obtain ⟨xs4, n4, _, _, hlen4, hxl4, hg4⟩ := DataW.trod_struct Tryd.underlying28 g4'
    match xs4, hxl4 with
    | [x0, x1, x2, x3], _ =>
      have q0 : DataW.trod enc Tryd.prog w 0 (fun _ => true) true n4 3 (List.take (Tryd.prog.cellsOf 3) (List.drop 0 [c4, c5, c6, c7])) = some x0 := hg4 0 _ rfl
      rw [cells3] at q0
      have q1 : DataW.trod enc Tryd.prog w 0 (fun _ => true) true n4 22 (List.take (Tryd.prog.cellsOf 22) (List.drop 1 [c4, c5, c6, c7])) = some x1 := hg4 1 _ rfl
      rw [cells22] at q1
      have q2 : DataW.trod enc Tryd.prog w 0 (fun _ => true) true n4 26 (List.take (Tryd.prog.cellsOf 26) (List.drop 2 [c4, c5, c6, c7])) = some x2 := hg4 2 _ rfl
      rw [cells26] at q2
      have q3 : DataW.trod enc Tryd.prog w 0 (fun _ => true) true n4 26 (List.take (Tryd.prog.cellsOf 26) (List.drop 3 [c4, c5, c6, c7])) = some x3 := hg4 3 _ rfl
      rw [cells26] at q3
      obtain ⟨z0, e0, _, _⟩ := DataW.trod_int Tryd.underlying22 g0
      obtain ⟨z1, e1, _, _⟩ := DataW.trod_int Tryd.underlying3 g1
      obtain ⟨A, c, l, e2, hc, hC⟩ := opens_row Tryd.underlying23 opens33 cells33 z33 g2
      obtain ⟨AJ, nJ, cJ, e3⟩ := open_sl Tryd.underlying24 g3
      obtain ⟨r0, e4, _, _⟩ := DataW.trod_int Tryd.underlying3 q0
      obtain ⟨r1, e5, _, _⟩ := DataW.trod_int Tryd.underlying22 q1
      obtain ⟨r2, e6, _, _⟩ := DataW.trod_int Tryd.underlying26 q2
      obtain ⟨r3, e7, _, _⟩ := DataW.trod_int Tryd.underlying26 q3
      obtain ⟨b5, e8, _⟩ := DataW.trod_bool Tryd.underlying4 g5
      obtain ⟨z6, e9, _, _⟩ := DataW.trod_int Tryd.underlying3 g6
      simp at e0 e1 e4 e5 e6 e7 e8 e9
      subst e0 e1 e2 e3 e4 e5 e6 e7 e8 e9
      exact ⟨_, _, _, _, _, _, _, _, _, _, _, _, _, _, rfl, hc, hC⟩
end Go.Proofs.YtkbjlaknhedekaaDoor.ViewOpen
