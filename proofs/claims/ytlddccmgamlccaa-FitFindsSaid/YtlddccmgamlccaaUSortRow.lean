/-
  slices.SortFunc over a row of the call's own, in the print's words: what is left of a row that the sort has gone over (the shelf's world 'sortWorldK'), for any kind of elements that are plain cells.
-/
import Derived.Test.YtlddccmgamlccaaUW
import Derived.Shelf.SlSortCmp.NoneTotal
namespace Go.Proofs.Ytlddccmgamlccaa.SortRow
open Go.RowKit Go.Proofs.YtlddccmgamlccaaW.PrintWords Go.Proofs.YtlddccmgamlccaaW.PrintLast Go.Proofs.YtlddccmgamlccaaW.PrintMore Go.Sort

theorem flatK_drop {α : Type} [Inhabited α] (enc : α → List Value) (k : Nat) (hk : ∀ x, (enc x).length = k) (h0 : 0 < k) (l : List α) (j : Nat) (p : α) (hj : l[j]? = some p) :
    (((flatK enc k l.toArray).toList.drop (j * k)).take k) = enc p := by
  have hlt : j < l.length := (List.getElem?_eq_some_iff.1 hj).1
  have hp : l[j] = p := (List.getElem?_eq_some_iff.1 hj).2
  have hb : j * k + k ≤ l.length * k := by rw [← Nat.succ_mul]; exact Nat.mul_le_mul_right _ hlt
  refine List.ext_getElem? (fun i => ?_)
  rcases Nat.lt_or_ge i k with hi | hi
  · have hik : i < (enc p).length := by rw [hk]; exact hi
    have ht : j * k + i < l.length * k := by omega
    rw [List.getElem?_take_of_lt hi, List.getElem?_drop, List.getElem?_eq_getElem hik]
    have hg := get_flatK enc k l.toArray (j * k + i) (by simpa using ht)
    have hs : j * k + i < (flatK enc k l.toArray).toList.length := by rw [Array.length_toList, size_flatK]; simpa using ht
    rw [List.getElem?_eq_getElem hs]
    congr 1
    have e1 : (j * k + i) / k = j := (blk_iff k j _ h0).1 ⟨by omega, by omega⟩
    have e2 : (j * k + i) % k = i := by rw [Nat.mod_eq_sub_div_mul, e1]; omega
    rw [e1, e2] at hg
    have hgl : (flatK enc k l.toArray)[j * k + i]! = (flatK enc k l.toArray).toList[j * k + i]'hs := by
      rw [getElem!_pos (flatK enc k l.toArray) (j * k + i) (by rw [size_flatK]; simpa using ht)]
      simp
    rw [← hgl, hg]
    have hjj : (l.toArray)[j]! = p := by rw [getElem!_pos l.toArray j (by simpa using hlt)]; simpa using hp
    rw [hjj, getElem!_pos (enc p) i hik]
  · rw [List.getElem?_eq_none (by rw [List.length_take]; omega), List.getElem?_eq_none (by rw [hk]; exact hi)]

/-- A row that is held by its cells is held in the sort's words. -/
theorem holds_of {α : Type} [Inhabited α] (enc : α → List Value) (k : Nat) (hk : ∀ x, (enc x).length = k) (h0 : 0 < k) {w : World} {g e : Nat} {l : List α} {cur : Array Value} {inner : List Value}
    (hg : w.heap[g]? = some (.cells cur e (0, 0))) (hcur : cur.toList.take (l.length * k) = inner) (hr : Reps (fun p c => c = enc p) k l inner) : HoldsK enc k w g 0 l.toArray := by
  intro t ht
  rw [size_flatK] at ht
  have ht' : t < l.length * k := by simpa using ht
  have hj : t / k < l.length := (Nat.div_lt_iff_lt_mul h0).2 ht'
  have hp := hr.2 (t / k) (l[t / k]) (List.getElem?_eq_getElem hj)
  have hmod : t % k < k := Nat.mod_lt _ h0
  have hdm : t / k * k + t % k = t := by rw [Nat.mul_comm]; exact Nat.div_add_mod t k
  have hb : t / k * k + k ≤ l.length * k := by rw [← Nat.succ_mul]; exact Nat.mul_le_mul_right _ hj
  have hcell : cur[t]? = some ((enc (l[t / k]))[t % k]'(by rw [hk]; exact hmod)) := by
    have h1 : inner[t]? = some ((enc (l[t / k]))[t % k]'(by rw [hk]; exact hmod)) := by
      have h2 : (((inner.drop (t / k * k)).take k))[t % k]? = inner[t]? := by
        rw [List.getElem?_take_of_lt hmod, List.getElem?_drop, hdm]
      rw [← h2, hp, List.getElem?_eq_getElem]
    rw [← hcur, List.getElem?_take_of_lt ht'] at h1
    simpa using h1
  constructor
  · have hv : (flatK enc k l.toArray)[t]! = (enc (l[t / k]))[t % k]'(by rw [hk]; exact hmod) := by
      rw [get_flatK enc k l.toArray t (by simpa using ht')]
      have hjj : (l.toArray)[t / k]! = l[t / k] := by rw [getElem!_pos l.toArray (t / k) (by simpa using hj)]; simp
      rw [hjj, getElem!_pos (enc l[t / k]) (t % k) (by rw [hk]; exact hmod)]
    rw [hv, Nat.zero_add]
    have hx : w.heap[g]? = some (.cells cur e (0, 0)) := hg
    simp only [World.cell?, hx]
    simpa using hcell
  · have hx : w.heap[g]? = some (.cells cur e (0, 0)) := hg
    simp [World.frozen?, hx]

theorem heap_sortWorldK {α : Type} [Inhabited α] (enc : α → List Value) (k : Nat) (w : World) (g m : Nat) (dk : Array α) (os : Array Obj) (hg : g < w.heap.size) :
    (sortWorldK enc k w g 0 m dk os).heap.size = w.heap.size + os.size ∧
    (∀ i, i < w.heap.size → i ≠ g → (sortWorldK enc k w g 0 m dk os).heap[i]? = w.heap[i]?) ∧
    (∀ cur e fr, w.heap[g]? = some (.cells cur e fr) → (sortWorldK enc k w g 0 m dk os).heap[g]? = some (.cells (putCells id 0 (flatK enc k dk) cur) e fr)) := by
  unfold sortWorldK putRowK putRow mapBlock grow Go.Sort.ahead
  refine ⟨by simp, fun i hi hne => ?_, fun cur e fr h => ?_⟩
  · simp only [Array.getElem?_append]
    rw [if_pos (by simpa using hi), Array.getElem?_modify, if_neg (Ne.symm hne)]
  · simp only [Array.getElem?_append]
    rw [if_pos (by simpa using hg), Array.getElem?_modify, if_pos rfl, h]
    rfl

/-- WHAT THE SORT LEAVES: the row, told anew; all else as it was. -/
theorem sort_left {α : Type} [Inhabited α] (d : Kd α) (enc : α → List Value) (hM : ∀ w base ok x cs, d.M w base ok x cs ↔ cs = enc x) (hk : ∀ x, (enc x).length = d.sz) (h0 : 0 < d.sz) {e : Nat} {P : Nat → Prop} {w0 w : World} {g cap : Nat} {l : List α}
    (hB : Below w0.heap.size w0 w) (ho : d.R e w w0.heap.size P (.slice (some ⟨g, 0, none⟩) l.length cap) l) (m : Nat) (l' : List α) (os : Array Obj) (hl : l'.length = l.length) :
    d.R e (sortWorldK enc d.sz w g 0 m l'.toArray os) w0.heap.size (fun k_ => (P k_ ∨ w.heap.size ≤ k_)) (.slice (some ⟨g, 0, none⟩) l.length cap) l' ∧
      Below w0.heap.size w0 (sortWorldK enc d.sz w g 0 m l'.toArray os) ∧ Kept w (sortWorldK enc d.sz w g 0 m l'.toArray os) (fun k_ => P k_) := by
  obtain ⟨hP, inner, hown, hr⟩ := ho
  have hPg : P g := hP g (by simp [Value.ownBlock])
  rcases hown.2 with ⟨he, _⟩ | ⟨g', cap', cur, he, hge, hh, hle, hmax, hcs, htake⟩
  · cases he
  · injection he with he1 he2 he3
    injection he1 with he1
    injection he1 with he1
    subst he1
    subst he3
    have hlt : g < w.heap.size := (Array.getElem?_eq_some_iff.1 hh).1
    obtain ⟨hs, hoth, hrow⟩ := heap_sortWorldK enc d.sz w g m l'.toArray os hlt
    have hrow' := hrow cur e (0, 0) hh
    have hfs : (flatK enc d.sz l'.toArray).size = l'.length * d.sz := by rw [size_flatK]; simp
    have hlc : l.length * d.sz ≤ cap * d.sz := Nat.mul_le_mul_right _ hle
    have htk : (putCells id 0 (flatK enc d.sz l'.toArray) cur).toList.take (l.length * d.sz) = (flatK enc d.sz l'.toArray).toList := by
      refine List.ext_getElem? (fun i => ?_)
      rcases Nat.lt_or_ge i (l.length * d.sz) with hi | hi
      · have hif : i < (flatK enc d.sz l'.toArray).size := by rw [hfs, hl]; exact hi
        have hic : i < cur.size := by rw [hcs]; omega
        rw [List.getElem?_take_of_lt hi]
        simp only [Array.getElem?_toList, putCells, Array.getElem?_mapIdx, Array.getElem?_eq_getElem hic, Option.map_some]
        rw [if_pos ⟨Nat.zero_le _, by omega⟩, Array.getElem?_eq_getElem hif, Nat.sub_zero, getElem!_pos (flatK enc d.sz l'.toArray) i hif]
        rfl
      · rw [List.getElem?_eq_none (by rw [List.length_take]; omega), List.getElem?_eq_none (by rw [Array.length_toList, hfs, hl]; exact hi)]
    refine ⟨⟨fun k hk' => ?_, (flatK enc d.sz l'.toArray).toList, ⟨by rw [Array.length_toList, hfs], .inr ⟨g, cap, _, by rw [hl], hge, hrow', by rw [hl]; exact hle, hmax, ?_, by rw [hl]; exact htk⟩⟩, ⟨by rw [Array.length_toList, hfs], fun j p hj => ?_⟩⟩, ⟨?_, ?_, ?_, ?_, ?_⟩, ?_⟩
    · have : g = k := by simpa [Value.ownBlock] using hk'
      subst this
      exact .inl hPg
    · simp [putCells, hcs]
    · rw [flatK_drop enc d.sz hk h0 l' j p hj]
      exact (hM _ _ _ _ _).2 rfl
    · exact hB.os
    · exact hB.tape
    · exact hB.output
    · rw [hs]; have := hB.size; omega
    · intro k hk'
      rw [hoth k (by have := hB.size; omega) (by omega)]
      exact hB.block k hk'
    · refine ⟨by rw [hs]; omega, fun i hi hn => ?_⟩
      exact hoth i hi (fun he => hn (he ▸ hPg))

end Go.Proofs.Ytlddccmgamlccaa.SortRow
