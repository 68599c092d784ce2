/- What reads as a list of steps is one. Conditions: those that each theorem states. -/
import Derived.Test.YtkkjjogbfjahgaaDoorSpPb
import Derived.Deep.Slices
import Derived.Deep.Fields
import Derived.ChangeArms
import Derived.ChangeOld
set_option linter.unusedVariables false
set_option linter.unusedSimpArgs false
/- What reads as a list of steps is one. -/
namespace Go.Proofs.YtkkjjogbfjahgaaDoor.PutOpen
open Go.Proofs.YtkkjjogbfjahgaaDoor.Sm Go.RowKit Go.ChangeShapes Go.WideShapes Go.Deep Go.Proofs.YtkkjjogbfjahgaaDoorW.PrintWords Go.Proofs.YtkkjjogbfjahgaaDoorW.PrintLast Go.Proofs.YtkkjjogbfjahgaaDoorW.PrintMore
variable {H : Type} {enc : TypeId × Value → H} {P : Program} {w : World} {t e : TypeId}

/-- What reads at type t is a value of the kind d, and Q holds of it. -/
def Opens {H : Type} (enc : TypeId × Value → H) (P : Program) (w : World) {α : Type} (t : TypeId) (d : Kd α) (Q : α → Prop) : Prop :=
  ∀ (fuel : Nat) (cs : List Value) (x : DataW H × List MemPlace), DataW.trod enc P w 0 (fun _ => true) true fuel t cs = some x → ∃ y, d.K w y cs ∧ Q y

theorem opens_int {k : IntKind} (ht : P.underlying t = some (.int k)) : Opens enc P w t (Kd.int k) (fun n => (Lit.int k n).wf = true) := by
  intro fuel cs x h
  obtain ⟨n, rfl, _, hw⟩ := DataW.trod_int ht h
  exact ⟨n, rfl, hw⟩

/-- A slice of what opens. -/
theorem opens_row {α : Type} {d : Kd α} {Q : α → Prop} (ht : P.underlying t = some (.slice e)) (hd : Opens enc P w e d Q) (hsz : P.cellsOf e = d.sz) (z : α) {a : Option Addr} {len cap : Nat} {dd : DataW H} {ps : List MemPlace}
    (h : DataW.Trod enc P w 0 (fun _ => true) true t (.slice a len cap) dd ps) : ∃ ys : List α, ys.length = len ∧ len ≤ cap ∧ d.C w a len ys ∧ ∀ y ∈ ys, Q y := by
  obtain ⟨fuel, hf⟩ := h
  rcases open_slice ht hf with ⟨hcs, _⟩ | ⟨a', len', cap', m, n, D, Pl, hcs, _, hl, hm, hmm, _, hi⟩
  · simp [Value.cells] at hcs
    obtain ⟨rfl, rfl, rfl⟩ := hcs
    exact ⟨[], rfl, Nat.le_refl _, ⟨rfl, by omega, fun h0 => by omega⟩, by simp⟩
  · simp [Value.cells] at hcs
    obtain ⟨rfl, rfl, rfl⟩ := hcs
    have hlm : len ≤ m := by rw [hmm]; split <;> omega
    have hex : ∀ i, ∃ y : α, i < len → (∃ c, c.length = d.sz ∧ d.K w y c ∧ ∀ j u, c[j]? = some u → w.cell? (a'.add (i * d.sz + j)) = some u) ∧ Q y := by
      intro i
      by_cases hil : i < len
      · obtain ⟨cs', hc, htr⟩ := hi i (by omega)
        rw [hsz] at hc
        obtain ⟨y, hK, hQ⟩ := hd n cs' _ htr
        obtain ⟨_, hcl, hat⟩ := World.cells?_some hc
        refine ⟨y, fun _ => ⟨⟨cs', d.K_len hK, hK, fun j u hu => ?_⟩, hQ⟩⟩
        have hjl : j < cs'.length := (List.getElem?_eq_some_iff.1 hu).1
        have := hat j (by rw [← d.K_len hK]; exact hjl)
        rw [Go.Deep.add_add] at this
        rw [this, hu]
      · exact ⟨z, fun h => absurd h hil⟩
    refine ⟨(List.range len).map fun i => Classical.choose (hex i), by simp, hl, ⟨by simp, by unfold maxLen at hm; omega, fun _ => ⟨a', rfl, fun j p hj => ?_⟩⟩, fun y hy => ?_⟩
    · have hjl : j < len := by have := (List.getElem?_eq_some_iff.1 hj).1; simpa using this
      have hp : Classical.choose (hex j) = p := by simpa [hjl] using hj
      rw [← hp]
      exact (Classical.choose_spec (hex j) hjl).1
    · obtain ⟨i, hi', rfl⟩ := List.mem_map.1 hy
      exact (Classical.choose_spec (hex i) (List.mem_range.1 hi')).2


theorem trod_array {spare : Nat → Bool} {held : Bool} {base n fuel : Nat} {cs : List Value} {x : DataW H × List MemPlace} (ht : P.underlying t = some (.array n e)) (h : DataW.trod enc P w base spare held fuel t cs = some x) :
    ∃ (xs : List (DataW H × List MemPlace)) (m : Nat), cs.length = P.cellsOf t ∧ xs.length = n ∧ ∀ i, i < n → DataW.trod enc P w base spare held m e ((cs.drop (i * P.cellsOf e)).take (P.cellsOf e)) = xs[i]? := by
  cases fuel with
  | zero => simp [DataW.trod] at h
  | succ m =>
    unfold DataW.trod at h
    rw [ht] at h
    split at h <;> simp_all
    obtain ⟨hl, xs, hp, hd⟩ := h
    exact ⟨xs, by simpa using mapM_some_length hp, m, fun i hi => mapM_some_get hp i i (by simp [hi])⟩
end Go.Proofs.YtkkjjogbfjahgaaDoor.PutOpen
namespace Go.Proofs.YtkkjjogbfjahgaaDoor.Sm
open Go Go.Proofs Go.RowKit Go.ChangeShapes Go.WideShapes Go.Deep Go.Proofs.YtkkjjogbfjahgaaDoorW.PrintWords Go.Proofs.YtkkjjogbfjahgaaDoorW.PrintLast Go.Proofs.YtkkjjogbfjahgaaDoorW.PrintMore Go.Proofs.YtkkjjogbfjahgaaDoor.PSc Go.Proofs.YtkkjjogbfjahgaaDoor.PutOpen
theorem bd64 {z : Int} (h : (Lit.int .i64 z).wf = true) : CodSame.I64 z := by simp [Lit.wf, IntKind.min, IntKind.max, IntKind.signed, IntKind.bits] at h; unfold CodSame.I64; omega
theorem bdu8 {z : Int} (h : (Lit.int .u8 z).wf = true) : 0 ≤ z ∧ z < 256 := by simp [Lit.wf, IntKind.min, IntKind.max, IntKind.signed, IntKind.bits] at h; omega
theorem cells3 : Tryd.prog.cellsOf 3 = 1 := by kernel_rfl
theorem cells4 : Tryd.prog.cellsOf 4 = 1 := by kernel_rfl
theorem cells9 : Tryd.prog.cellsOf 9 = 1 := by kernel_rfl
theorem cells37 : Tryd.prog.cellsOf 37 = 1 := by kernel_rfl
theorem cells39 : Tryd.prog.cellsOf 39 = 12 := by kernel_rfl
theorem cells40 : Tryd.prog.cellsOf 40 = 4 := by kernel_rfl
theorem cells42 : Tryd.prog.cellsOf 42 = 19 := by kernel_rfl
set_option maxRecDepth 100000 in
theorem opensC {H : Type} {enc : TypeId × Value → H} {w : World} : Opens enc Tryd.prog w 39 k39 Cmd64 := by
  intro fuel cs x h
  obtain ⟨xs, n, _, _, hlen, hxl, hg⟩ := DataW.trod_struct Tryd.underlying39 h
  rw [cells39] at hlen
  match cs, hlen, xs, hxl with
  | [c0, c1, c2, c3, c4, c5, c6, c7, c8, c9, c10, c11], _, [y0, y1, y2, y3, y4, y5, y6, y7, y8, y9, y10, y11], _ =>
    have g0 : DataW.trod enc Tryd.prog w 0 (fun _ => true) true n 3 (List.take (Tryd.prog.cellsOf 3) (List.drop 0 [c0, c1, c2, c3, c4, c5, c6, c7, c8, c9, c10, c11])) = some y0 := hg 0 _ rfl
    rw [cells3] at g0
    have g1 : DataW.trod enc Tryd.prog w 0 (fun _ => true) true n 3 (List.take (Tryd.prog.cellsOf 3) (List.drop 1 [c0, c1, c2, c3, c4, c5, c6, c7, c8, c9, c10, c11])) = some y1 := hg 1 _ rfl
    rw [cells3] at g1
    have g2 : DataW.trod enc Tryd.prog w 0 (fun _ => true) true n 3 (List.take (Tryd.prog.cellsOf 3) (List.drop 2 [c0, c1, c2, c3, c4, c5, c6, c7, c8, c9, c10, c11])) = some y2 := hg 2 _ rfl
    rw [cells3] at g2
    have g3 : DataW.trod enc Tryd.prog w 0 (fun _ => true) true n 3 (List.take (Tryd.prog.cellsOf 3) (List.drop 3 [c0, c1, c2, c3, c4, c5, c6, c7, c8, c9, c10, c11])) = some y3 := hg 3 _ rfl
    rw [cells3] at g3
    have g4 : DataW.trod enc Tryd.prog w 0 (fun _ => true) true n 3 (List.take (Tryd.prog.cellsOf 3) (List.drop 4 [c0, c1, c2, c3, c4, c5, c6, c7, c8, c9, c10, c11])) = some y4 := hg 4 _ rfl
    rw [cells3] at g4
    have g5 : DataW.trod enc Tryd.prog w 0 (fun _ => true) true n 3 (List.take (Tryd.prog.cellsOf 3) (List.drop 5 [c0, c1, c2, c3, c4, c5, c6, c7, c8, c9, c10, c11])) = some y5 := hg 5 _ rfl
    rw [cells3] at g5
    have g6 : DataW.trod enc Tryd.prog w 0 (fun _ => true) true n 3 (List.take (Tryd.prog.cellsOf 3) (List.drop 6 [c0, c1, c2, c3, c4, c5, c6, c7, c8, c9, c10, c11])) = some y6 := hg 6 _ rfl
    rw [cells3] at g6
    have g7 : DataW.trod enc Tryd.prog w 0 (fun _ => true) true n 3 (List.take (Tryd.prog.cellsOf 3) (List.drop 7 [c0, c1, c2, c3, c4, c5, c6, c7, c8, c9, c10, c11])) = some y7 := hg 7 _ rfl
    rw [cells3] at g7
    have g8 : DataW.trod enc Tryd.prog w 0 (fun _ => true) true n 3 (List.take (Tryd.prog.cellsOf 3) (List.drop 8 [c0, c1, c2, c3, c4, c5, c6, c7, c8, c9, c10, c11])) = some y8 := hg 8 _ rfl
    rw [cells3] at g8
    have g9 : DataW.trod enc Tryd.prog w 0 (fun _ => true) true n 37 (List.take (Tryd.prog.cellsOf 37) (List.drop 9 [c0, c1, c2, c3, c4, c5, c6, c7, c8, c9, c10, c11])) = some y9 := hg 9 _ rfl
    rw [cells37] at g9
    have g10 : DataW.trod enc Tryd.prog w 0 (fun _ => true) true n 37 (List.take (Tryd.prog.cellsOf 37) (List.drop 10 [c0, c1, c2, c3, c4, c5, c6, c7, c8, c9, c10, c11])) = some y10 := hg 10 _ rfl
    rw [cells37] at g10
    have g11 : DataW.trod enc Tryd.prog w 0 (fun _ => true) true n 4 (List.take (Tryd.prog.cellsOf 4) (List.drop 11 [c0, c1, c2, c3, c4, c5, c6, c7, c8, c9, c10, c11])) = some y11 := hg 11 _ rfl
    rw [cells4] at g11
    obtain ⟨z0, e0, _, u0⟩ := DataW.trod_int Tryd.underlying3 g0
    obtain ⟨z1, e1, _, u1⟩ := DataW.trod_int Tryd.underlying3 g1
    obtain ⟨z2, e2, _, u2⟩ := DataW.trod_int Tryd.underlying3 g2
    obtain ⟨z3, e3, _, u3⟩ := DataW.trod_int Tryd.underlying3 g3
    obtain ⟨z4, e4, _, u4⟩ := DataW.trod_int Tryd.underlying3 g4
    obtain ⟨z5, e5, _, u5⟩ := DataW.trod_int Tryd.underlying3 g5
    obtain ⟨z6, e6, _, u6⟩ := DataW.trod_int Tryd.underlying3 g6
    obtain ⟨z7, e7, _, u7⟩ := DataW.trod_int Tryd.underlying3 g7
    obtain ⟨z8, e8, _, u8⟩ := DataW.trod_int Tryd.underlying3 g8
    obtain ⟨z9, e9, _, u9⟩ := DataW.trod_int Tryd.underlying37 g9
    obtain ⟨z10, e10, _, u10⟩ := DataW.trod_int Tryd.underlying37 g10
    obtain ⟨z11, e11, _⟩ := DataW.trod_bool Tryd.underlying4 g11
    simp at e0 e1 e2 e3 e4 e5 e6 e7 e8 e9 e10 e11
    subst e0 e1 e2 e3 e4 e5 e6 e7 e8 e9 e10 e11
    exact ⟨⟨z0, z1, z2, z3, z4, z5, z6, z7, z8, z9, z10, z11⟩, k39_mk w ⟨z0, z1, z2, z3, z4, z5, z6, z7, z8, z9, z10, z11⟩, bd64 u0, bd64 u1, bd64 u2, bd64 u3, bd64 u4, bd64 u5, bd64 u6, bd64 u7, bd64 u8, bd64 u9, bd64 u10⟩
def Keep64 (x : S40) : Prop := CodSame.I64 x.f0 ∧ CodSame.I64 x.f1 ∧ CodSame.I64 x.f2 ∧ CodSame.I64 x.f3
set_option maxRecDepth 100000 in
theorem opensK {H : Type} {enc : TypeId × Value → H} {w : World} : Opens enc Tryd.prog w 40 k40 Keep64 := by
  intro fuel cs x h
  obtain ⟨xs, n, hlen, hxl, hg⟩ := trod_array Tryd.underlying40 h
  rw [cells40] at hlen
  rw [cells3] at hg
  match cs, hlen, xs, hxl with
  | [c0, c1, c2, c3], _, [y0, y1, y2, y3], _ =>
    have g0 : DataW.trod enc Tryd.prog w 0 (fun _ => true) true n 3 [c0] = some y0 := hg 0 (by omega)
    have g1 : DataW.trod enc Tryd.prog w 0 (fun _ => true) true n 3 [c1] = some y1 := hg 1 (by omega)
    have g2 : DataW.trod enc Tryd.prog w 0 (fun _ => true) true n 3 [c2] = some y2 := hg 2 (by omega)
    have g3 : DataW.trod enc Tryd.prog w 0 (fun _ => true) true n 3 [c3] = some y3 := hg 3 (by omega)
    obtain ⟨z0, e0, _, u0⟩ := DataW.trod_int Tryd.underlying3 g0
    obtain ⟨z1, e1, _, u1⟩ := DataW.trod_int Tryd.underlying3 g1
    obtain ⟨z2, e2, _, u2⟩ := DataW.trod_int Tryd.underlying3 g2
    obtain ⟨z3, e3, _, u3⟩ := DataW.trod_int Tryd.underlying3 g3
    simp at e0 e1 e2 e3
    subst e0 e1 e2 e3
    exact ⟨⟨z0, z1, z2, z3⟩, k40_mk w ⟨z0, z1, z2, z3⟩, bd64 u0, bd64 u1, bd64 u2, bd64 u3⟩
set_option maxRecDepth 100000 in
theorem opensS {H : Type} {enc : TypeId × Value → H} {w : World} : Opens enc Tryd.prog w 42 k42 Step64 := by
  intro fuel cs x h
  obtain ⟨xs, n, _, _, hlen, hxl, hg⟩ := DataW.trod_struct Tryd.underlying42 h
  rw [cells42] at hlen
  match cs, hlen, xs, hxl with
  | [c0, c1, c2, c3, c4, c5, c6, c7, c8, c9, c10, c11, c12, c13, c14, c15, c16, c17, c18], _, [y0, y1, y2, y3, y4], _ =>
    have g0 : DataW.trod enc Tryd.prog w 0 (fun _ => true) true n 3 (List.take (Tryd.prog.cellsOf 3) (List.drop 0 [c0, c1, c2, c3, c4, c5, c6, c7, c8, c9, c10, c11, c12, c13, c14, c15, c16, c17, c18])) = some y0 := hg 0 _ rfl
    rw [cells3] at g0
    have g1 : DataW.trod enc Tryd.prog w 0 (fun _ => true) true n 39 (List.take (Tryd.prog.cellsOf 39) (List.drop 1 [c0, c1, c2, c3, c4, c5, c6, c7, c8, c9, c10, c11, c12, c13, c14, c15, c16, c17, c18])) = some y1 := hg 1 _ rfl
    rw [cells39] at g1
    have g2 : DataW.trod enc Tryd.prog w 0 (fun _ => true) true n 9 (List.take (Tryd.prog.cellsOf 9) (List.drop 13 [c0, c1, c2, c3, c4, c5, c6, c7, c8, c9, c10, c11, c12, c13, c14, c15, c16, c17, c18])) = some y2 := hg 2 _ rfl
    rw [cells9] at g2
    have g3 : DataW.trod enc Tryd.prog w 0 (fun _ => true) true n 3 (List.take (Tryd.prog.cellsOf 3) (List.drop 14 [c0, c1, c2, c3, c4, c5, c6, c7, c8, c9, c10, c11, c12, c13, c14, c15, c16, c17, c18])) = some y3 := hg 3 _ rfl
    rw [cells3] at g3
    have g4 : DataW.trod enc Tryd.prog w 0 (fun _ => true) true n 40 (List.take (Tryd.prog.cellsOf 40) (List.drop 15 [c0, c1, c2, c3, c4, c5, c6, c7, c8, c9, c10, c11, c12, c13, c14, c15, c16, c17, c18])) = some y4 := hg 4 _ rfl
    rw [cells40] at g4
    obtain ⟨z0, e0, _, u0⟩ := DataW.trod_int Tryd.underlying3 g0
    obtain ⟨m1, k1, q1⟩ := opensC n _ _ g1
    obtain ⟨z2, e2, _, _⟩ := DataW.trod_string Tryd.underlying9 g2
    obtain ⟨z3, e3, _, u3⟩ := DataW.trod_int Tryd.underlying3 g3
    obtain ⟨m4, k4, q4⟩ := opensK n _ _ g4
    have e1 := k39_open k1
    have e4 := k40_open k4
    simp at e0 e1 e2 e3 e4
    obtain ⟨rfl, rfl, rfl, rfl, rfl, rfl, rfl, rfl, rfl, rfl, rfl, rfl⟩ := e1
    obtain ⟨rfl, rfl, rfl, rfl⟩ := e4
    subst e0 e2 e3
    exact ⟨⟨z0, m1, z2, z3, m4⟩, k42_mk w ⟨z0, m1, z2, z3, m4⟩, bd64 u0, q1, bd64 u3, q4⟩
end Go.Proofs.YtkkjjogbfjahgaaDoor.Sm
