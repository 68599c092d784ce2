/-
  Arguments that came in, read as the print's kinds: a number, a struct, a slice of whatever is read so. Conditions: none beyond the form's own.
-/
import Derived.Test.YtgdlhfmdgibkbaaWMore
import Derived.Deep.Slices
import Derived.Deep.Fields
import Derived.ChangeArms
import Derived.ChangeOld
namespace Go.Proofs.Ytgdlhfmdgibkbaa.ArgOpen
open Go.RowKit Go.ChangeShapes Go.WideShapes Go.Deep Go.Proofs.YtgdlhfmdgibkbaaW.PrintWords Go.Proofs.YtgdlhfmdgibkbaaW.PrintLast Go.Proofs.YtgdlhfmdgibkbaaW.PrintMore
variable {H : Type} {enc : TypeId × Value → H} {P : Program} {w : World} {t e : TypeId}

/-- What reads at type t is a value of the kind d, and Q holds of it. -/
def Opens {H : Type} (enc : TypeId × Value → H) (P : Program) (w : World) {α : Type} (t : TypeId) (d : Kd α) (Q : α → Prop) : Prop :=
  ∀ (fuel : Nat) (cs : List Value) (x : DataW H × List MemPlace), DataW.trod enc P w 0 (fun _ => true) true fuel t cs = some x → ∃ y, d.K w y cs ∧ Q y

theorem opens_int {k : IntKind} (ht : P.underlying t = some (.int k)) : Opens enc P w t (Kd.int k) (fun n => (Lit.int k n).wf = true) := by
  intro fuel cs x h
  obtain ⟨n, rfl, _, hw⟩ := DataW.trod_int ht h
  exact ⟨n, rfl, hw⟩

/-- A slice of what opens. -/
theorem opens_row {α : Type} {d : Kd α} {Q : α → Prop} (ht : P.underlying t = some (.slice e)) (hd : Opens enc P w e d Q) (hsz : P.cellsOf e = d.sz) (z : α) {a : Option Addr} {len cap : Nat} {dd : DataW H} {ps : List MemPlace}
    (h : DataW.Trod enc P w 0 (fun _ => true) true t (.slice a len cap) dd ps) : ∃ ys : List α, ys.length = len ∧ len ≤ cap ∧ d.C w a len ys ∧ ∀ y ∈ ys, Q y := by
  obtain ⟨fuel, hf⟩ := h
  rcases open_slice ht hf with ⟨hcs, _⟩ | ⟨a', len', cap', m, n, D, Pl, hcs, _, hl, hm, hmm, _, hi⟩
  · simp [Value.cells] at hcs
    obtain ⟨rfl, rfl, rfl⟩ := hcs
    exact ⟨[], rfl, Nat.le_refl _, ⟨rfl, by omega, fun h0 => by omega⟩, by simp⟩
  · simp [Value.cells] at hcs
    obtain ⟨rfl, rfl, rfl⟩ := hcs
    have hlm : len ≤ m := by rw [hmm]; split <;> omega
    have hex : ∀ i, ∃ y : α, i < len → (∃ c, c.length = d.sz ∧ d.K w y c ∧ ∀ j u, c[j]? = some u → w.cell? (a'.add (i * d.sz + j)) = some u) ∧ Q y := by
      intro i
      by_cases hil : i < len
      · obtain ⟨cs', hc, htr⟩ := hi i (by omega)
        rw [hsz] at hc
        obtain ⟨y, hK, hQ⟩ := hd n cs' _ htr
        obtain ⟨_, hcl, hat⟩ := World.cells?_some hc
        refine ⟨y, fun _ => ⟨⟨cs', d.K_len hK, hK, fun j u hu => ?_⟩, hQ⟩⟩
        have hjl : j < cs'.length := (List.getElem?_eq_some_iff.1 hu).1
        have := hat j (by rw [← d.K_len hK]; exact hjl)
        rw [Go.Deep.add_add] at this
        rw [this, hu]
      · exact ⟨z, fun h => absurd h hil⟩
    refine ⟨(List.range len).map fun i => Classical.choose (hex i), by simp, hl, ⟨by simp, by unfold maxLen at hm; omega, fun _ => ⟨a', rfl, fun j p hj => ?_⟩⟩, fun y hy => ?_⟩
    · have hjl : j < len := by have := (List.getElem?_eq_some_iff.1 hj).1; simpa using this
      have hp : Classical.choose (hex j) = p := by simpa [hjl] using hj
      rw [← hp]
      exact (Classical.choose_spec (hex j) hjl).1
    · obtain ⟨i, hi', rfl⟩ := List.mem_map.1 hy
      exact (Classical.choose_spec (hex i) (List.mem_range.1 hi')).2

/-- A struct of two fields of one cell. -/
theorem opens_two {f0 f1 : Field} {fuel : Nat} {cs : List Value} {x : DataW H × List MemPlace} (hs : P.underlying t = some (.struct #[f0, f1])) (hone : oneCellFields P #[f0, f1] = true) (hC : P.cellsOf t = 2)
    (h : DataW.trod enc P w 0 (fun _ => true) true fuel t cs = some x) : ∃ (c0 c1 : Value) (n : Nat) (y0 y1 : DataW H × List MemPlace), cs = [c0, c1] ∧ DataW.trod enc P w 0 (fun _ => true) true n f0.type [c0] = some y0 ∧ DataW.trod enc P w 0 (fun _ => true) true n f1.type [c1] = some y1 := by
  obtain ⟨xs, n, _, _, hlen, hxl, hg⟩ := DataW.trod_struct hs h
  rw [hC] at hlen
  match cs, hlen, xs, hxl with
  | [c0, c1], _, [y0, y1], _ =>
    obtain ⟨o0, k0⟩ := hone_of hone 0 f0 rfl
    obtain ⟨o1, k1⟩ := hone_of hone 1 f1 rfl
    exact ⟨c0, c1, n, y0, y1, rfl, by simpa [o0, k0] using hg 0 f0 rfl, by simpa [o1, k1] using hg 1 f1 rfl⟩

end Go.Proofs.Ytgdlhfmdgibkbaa.ArgOpen
