/-
  What slices.SortFunc does with a row of spans under tick.Join's closure (by where they begin): the row holds what Go's own pdqsort leaves (the shelf's plain twin of it), a permutation that rises. Conditions: fewer than 2^62 spans; the row is one that the calls made themselves.
-/
import Derived.Test.YtlddccmgamlccaaPJoinx0
import Derived.Test.YtlddccmgamlccaaULays
import Derived.Test.YtlddccmgamlccaaUSortRow
import Derived.Shelf.SlSortCmp.NoneTotal
import Derived.Shelf.SlicesG.Cmp
namespace Go.Proofs.Ytlddccmgamlccaa.PJoin
open Go.RowKit Go.Shelf Go.Lib Go.Proofs.YtlddccmgamlccaaW.PrintWords Go.Proofs.YtlddccmgamlccaaW.PrintLast Go.Proofs.YtlddccmgamlccaaW.PrintMore Go.Proofs.Ytlddccmgamlccaa.SortRow
open Go.Sort (HoldsK SWO PermIn SortedIn pdq pdq_sorts)

instance : Inhabited S25 := ⟨z25⟩
def encSp (x : S25) : List Value := [.int .i64 x.f0, .int .i64 x.f1]
def cmpSp (x y : S25) : Int := Lib.compareInt x.f0 y.f0

theorem ltSp (x y : S25) : ltOf cmpSp x y = decide (x.f0 < y.f0) := by
  unfold ltOf cmpSp Lib.compareInt
  by_cases h1 : x.f0 < y.f0
  · simp [h1]
  · by_cases h2 : y.f0 < x.f0 <;> simp [h1, h2]
theorem swoSp : SWO (ltOf cmpSp) where
  irrefl x := by rw [ltSp]; simp
  trans x y z h1 h2 := by rw [ltSp] at *; simp at *; omega
  ntrans x y z h1 h2 := by rw [ltSp] at *; simp at *; omega

set_option maxHeartbeats 1000000 in
/-- The closure of tick.Join: in whatever world: two blocks are laid. -/
theorem closureJoin (x y : S25) (W : World) : Calls Try.prog 80 #[.agg #[.int .i64 x.f0, .int .i64 x.f1], .agg #[.int .i64 y.f0, .int .i64 y.f1]] W fun e w' => e = .returned (.int .i64 (cmpSp x y)) ∧ ∃ q os', w' = Go.Sort.grow (W.drewN q) os' := by
  have hcon := fun W' => AnyG.cmp_Compare_int Try.cmpTime x.f0 y.f0 W'
  change ∀ W', Calls Try.prog 81 _ _ _ at hcon
  unfold cmpSp
  generalize Lib.compareInt x.f0 y.f0 = r at hcon ⊢
  go_enter Try.func80, Try.ntmps80
  go_wp2_with (go_at_call 81; refine (hcon _).mono ?_; rintro e w' ⟨rfl, rfl⟩)
  go_ret
  exact ⟨rfl, 0, _, by rw [Go.Sort.alloc_eq_grow, Go.Sort.alloc_eq_grow, Go.Sort.grow_grow]; rfl⟩

theorem cmpLaysJoin (blk off size : Nat) (w : World) : CmpLays Try.prog 80 #[] encSp 2 cmpSp blk off size w :=
  fun _ _ _ _ x y => closureJoin x y _

/-- What the row holds behind the sort. -/
def slices_SortFunc.f (l : List S25) : Option (List S25) := if l.length < 4611686018427387904 then some (pdq (ltOf cmpSp) l.toArray 0 l.length (Lib.bitLen l.length) true true).toList else none

theorem extract_all {X : Array S25} {n : Nat} (h : X.size = n) : X.extract 0 n = X := by subst h; simp
theorem slices_SortFunc.tells {l r : List S25} (h : slices_SortFunc.f l = some r) : r.Perm l ∧ r.Pairwise (fun a b => a.f0 ≤ b.f0) ∧ r.length = l.length := by
  unfold slices_SortFunc.f at h
  split at h
  · rename_i hl
    injection h with h
    obtain ⟨⟨hs, _, hp⟩, hso⟩ := pdq_sorts (ltOf cmpSp) swoSp l.toArray 0 l.toArray.size (Lib.bitLen l.length) true true (Nat.zero_le _) (Nat.le_refl _) (Or.inl rfl)
    simp only [List.size_toArray] at hs hp hso
    have hlen : r.length = l.length := by rw [← h, Array.length_toList, hs]
    rw [extract_all hs, extract_all (X := l.toArray) (by simp)] at hp
    refine ⟨by rw [← h]; exact hp, ?_, hlen⟩
    rw [List.pairwise_iff_getElem]
    intro i j hi hj hij
    have := hso i j (Nat.zero_le _) hij (by rw [← hlen]; exact hj)
    rw [ltSp] at this
    have ei : r[i] = (pdq (ltOf cmpSp) l.toArray 0 l.length (Lib.bitLen l.length) true true)[i]! := by
      rw [getElem!_pos _ _ (by rw [hs, ← hlen]; exact hi)]
      simp [← h]
    have ej : r[j] = (pdq (ltOf cmpSp) l.toArray 0 l.length (Lib.bitLen l.length) true true)[j]! := by
      rw [getElem!_pos _ _ (by rw [hs, ← hlen]; exact hj)]
      simp [← h]
    rw [ei, ej]
    simpa using this
  · cases h

theorem k25_M (w : World) (base : Nat) (ok : Nat → Prop) (x : S25) (cs : List Value) : k25.M w base ok x cs ↔ cs = encSp x :=
  ⟨fun h => k25_openM h, fun h => by rw [h]; exact k25_mkM w base ok x⟩

set_option maxHeartbeats 1000000 in
theorem slices_SortFunc.calls (P0_ : Nat → Prop) (u9000_ : Value) (l0 : List S25) (r : List S25) (w0 w : World) (hB : Below w0.heap.size w0 w) (ho0 : Kd.R k25 25 w w0.heap.size P0_ u9000_ l0) (h : slices_SortFunc.f l0 = some r) :
    Calls Try.prog 79 #[u9000_, .func (.func 80) #[] #[]] w fun e w' => e = .returned (.tuple #[]) ∧ Kd.R k25 25 w' w0.heap.size (fun k_ => (P0_ k_ ∨ w.heap.size ≤ k_)) u9000_ r ∧ Below w0.heap.size w0 w' ∧ Kept w w' (fun k_ => P0_ k_) := by
  obtain ⟨ht1, ht2, ht3⟩ := slices_SortFunc.tells h
  have ho := ho0
  obtain ⟨hP, inner, hown, hr⟩ := ho0
  rcases hown.2 with ⟨rfl, h0⟩ | ⟨g, cap, cur, rfl, hge, hh, hle, hmax, hcs, htake⟩
  · obtain rfl : l0 = [] := List.eq_nil_of_length_eq_zero h0
    obtain rfl : r = [] := List.eq_nil_of_length_eq_zero (by rw [ht3]; rfl)
    have hn := AnyF.slices_SortFunc_none Try.sortSpan Option.none 0 (.func (.func 80) #[] #[]) w
    change Calls Try.prog 79 _ _ _ at hn
    refine hn.mono ?_
    rintro e w' ⟨rfl, rfl⟩
    exact ⟨rfl, Kd.R_nil _ _ _ _ _, hB, Kept.refl _ _⟩
  · have hlt : g < w.heap.size := (Array.getElem?_eq_some_iff.1 hh).1
    have hH : HoldsK encSp 2 w g 0 l0.toArray := holds_of encSp 2 (fun _ => rfl) (by omega) hh htake (hr.imp_ (fun p c hp => (k25_M _ _ _ _ _).1 hp))
    have hsz : l0.toArray.size < 4611686018427387904 := by
      unfold slices_SortFunc.f at h
      split at h
      · simpa using ‹l0.length < _›
      · cases h
    have eg : ∀ args w, (callFunc 80 args).run Try.prog w = .ok (.enter 80 args) w := enters_of Try.func80 (by kernel_rfl) rfl
    have hcon := AnyQ.slices_SortFunc_eq Try.sortSpan 2 Try.isAgg25 Try.sizeOf25 encSp (fun _ => rfl) (fun x v hv => by simp [encSp] at hv; rcases hv with rfl | rfl <;> rfl) cmpSp swoSp 80 #[] g 0 cap l0.toArray w eg (cmpLaysJoin g 0 l0.toArray.size w) hH hlt hsz
    change Calls Try.prog 79 _ _ _ at hcon
    rw [List.size_toArray] at hcon
    refine hcon.mono ?_
    rintro e w' ⟨rfl, m, os, rfl⟩
    have hrr : pdq (ltOf cmpSp) l0.toArray 0 l0.length (Lib.bitLen l0.length) true true = r.toArray := by
      unfold slices_SortFunc.f at h
      split at h
      · injection h with h
        rw [← h]
      · cases h
    rw [hrr]
    obtain ⟨a1, a2, a3⟩ := sort_left k25 encSp k25_M (fun _ => rfl) (by show 0 < 2; omega) hB ho m r os ht3
    exact ⟨rfl, a1, a2, a3⟩

end Go.Proofs.Ytlddccmgamlccaa.PJoin
