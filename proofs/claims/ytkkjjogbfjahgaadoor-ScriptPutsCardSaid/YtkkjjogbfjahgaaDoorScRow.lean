/- A part of the proofs over script (ScRow): contracts of the program's functions and plain laws. Conditions: those that each theorem states. -/
import Derived.Test.YtkkjjogbfjahgaaDoorCurA
import Derived.Laws.Tables
import Derived.Laws.Rows
set_option linter.unusedVariables false
set_option linter.unusedSimpArgs false
/- A struct stored or loaded whole, as one step of a plain region; what only turns a block. -/
namespace Go.Proofs.YtkkjjogbfjahgaaDoor.Sc
open Go Go.Proofs Go.RowKit Go.Proofs.YtkkjjogbfjahgaaDoorW.PrintWords Go.Proofs.YtkkjjogbfjahgaaDoor.Cur
section
variable {P : Program} {ops : Array Oper} {Q : Exit → Act → World → Prop} {rest : List Oper} {o : Oper} {a : Act} {W : World}
theorem rowStore (hgd : o.guard = none) {t : TypeId} {p : Operand} {v : Operand} (ho : o.op = .store t p v) (hN : o.dst = none) {g : Nat} {cs cs' : Array Value} {t0 : TypeId}
    (hp : a.eval p = .pointer (some ⟨g, 0, none⟩)) (hv : a.eval v = .agg cs') (hg : W.heap[g]? = some (.cells cs t0 (0, 0))) (hi : (P.info? t).map (·.size) = some cs'.size) (hs : cs.size = cs'.size) (h1 : cs'.all (·.oneCell') = true)
    (h : ∀ w1, w1.heap[g]? = some (.cells cs' t0 (0, 0)) → Only g W w1 → wpList P ops Q rest a w1) : wpList P ops Q (o :: rest) a W := by
  refine wpList_plain hgd fun K hK => ?_
  refine wp_store_row t p v ho g cs' hp hv t0 cs hg hi hs h1 ?_
  rw [hN]
  exact hK _ _ (h _ (setRow_heap W g cs cs' t0 (0, 0) hg) ⟨rfl, rfl, rfl, setRow_size W g cs', fun k hk => setRow_other W g k cs' hk⟩)
theorem rowLoad (hgd : o.guard = none) {t : TypeId} {p : Operand} (ho : o.op = .load t p) {g : Nat} {cs : Array Value} {t0 : TypeId} {d : TypeDesc}
    (hp : a.eval p = .pointer (some ⟨g, 0, none⟩)) (hg : W.heap[g]? = some (.cells cs t0 (0, 0))) (hu : P.underlying t = some d) (hd : (match d with | .struct _ | .array _ _ => true | _ => false) = true) (hi : (P.info? t).map (·.size) = some cs.size)
    (h : wpList P ops Q rest (a.put o.dst (.agg cs)) W) : wpList P ops Q (o :: rest) a W := by
  refine Kd.event_run hgd ?_ h
  unfold execOp
  simp [ho, hp, Instr.loadAt, Instr.sureAddr, run_loadVar_row W g t0 t cs (0, 0) d hg hu hd hi]
theorem gate_op {x : Op} (_ho : o.op = x) (h : wpList P ops Q (o :: rest) a W) : wpList P ops Q (o :: rest) a W := h
end
theorem blk_only {W W1 : World} {g k : Nat} {ob : Obj} (h : W.heap[k]? = some ob) (ho : Only g W W1) (hk : k ≠ g) : W1.heap[k]? = some ob := (ho.block k hk).trans h
end Go.Proofs.YtkkjjogbfjahgaaDoor.Sc
