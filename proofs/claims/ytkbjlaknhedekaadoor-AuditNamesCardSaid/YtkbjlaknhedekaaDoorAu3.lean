/- Faults laid behind others; the closures. Conditions: those that each theorem states. -/
import Derived.Test.YtkbjlaknhedekaaDoorAu2
import Derived.Test.YtkbjlaknhedekaaDoorAuR
set_option linter.unusedVariables false
set_option linter.unusedSimpArgs false
/- Faults laid behind others; the closures. -/
namespace Go.Proofs.YtkbjlaknhedekaaDoor.Sm
open Go Go.Proofs Go.RowKit Go.Proofs.BitsPlain Go.Proofs.YtkbjlaknhedekaaDoorW.PrintWords Go.Proofs.YtkbjlaknhedekaaDoorW.PrintLast Go.Proofs.YtkbjlaknhedekaaDoorW.PrintMore Go.Proofs.YtkbjlaknhedekaaDoor.PAuditNames
theorem put0_c (L F : Value) (w : World) : Calls Tryd.prog 11 #[L, .bool false, F] w fun e w' => (∃ v, e = .returned v) ∧ w' = w := by
  go_enter Tryd.func11, Tryd.ntmps11
  go_wp2
  go_end0
  exact ⟨⟨_, rfl⟩, rfl⟩
theorem info48 : (Tryd.prog.info? 48).map (fun i => (i.zero, i.size, i.bytes)) = some (some (.agg #[.int .i64 0, .int .i64 0, .int .i64 0]), 3, 24) := by kernel_rfl
theorem put1_c (g : Nat) (fa : Addr) (c : Nat) (a b d : Int) (w : World) (hg : w.heap[g]? = some (.cells #[.slice none 0 0] 41 (0, 0))) (hF : RowAt w fa [.int .i64 a, .int .i64 b, .int .i64 d]) :
    Calls Tryd.prog 11 #[.pointer (some ⟨g, 0, none⟩), .bool true, .slice (some fa) 1 c] w fun e w' => (∃ v, e = .returned v) ∧ ∃ q c' zs, w.heap.size ≤ q ∧ w'.heap[q]? = some (.cells ([.int .i64 a, .int .i64 b, .int .i64 d] ++ zs).toArray 48 (0, 0)) ∧ HG 0 w [(g, #[.slice (some ⟨q, 0, none⟩) 1 c'], 41)] w' := by
  have H := HG.open1 hg
  have HF := Aside0.mk hF
  clear hF hg
  go_enter Tryd.func11, Tryd.ntmps11
  go_wp2_with (first
   | ((with_reducible refine gate_load rfl ?_); refine hb_load rfl rfl H rfl (k := 0) rfl Tryd.underlying41 rfl rfl ?_)
   | ((with_reducible refine gate_builtin (b := .append) (xs := #[.tmp 10, .tmp 11]) rfl ?_); at_builtin; refine hb_append0 rfl rfl H Tryd.underlying41 Tryd.underlying34 info48 rfl rfl HF.out rfl (by simp [Value.oneCell']) (by omega) (by omega) (by decide) ?_; intro q c1 zs W1 hq H1; clear H; have H := H1; clear H1)
   | ((with_reducible refine gate_st rfl ?_); refine hb_storeL rfl rfl rfl H rfl (k := 1) rfl rfl (by kernel_rfl) rfl ?_; intro W1 H1; clear H; simp only [List.setIfInBounds_toArray, List.set_cons_zero, List.set_cons_succ] at H1; have H := H1; clear H1))
  go_end0
  exact ⟨⟨_, rfl⟩, q, c1, zs, hq, H.get (k := 0) rfl, H.drop hq⟩
theorem whole0_c (what : Int) (gl gj : Nat) (pl : Value) (id : Int) (w : World) (h1 : w.cell? ⟨gl, 0, none⟩ = some pl) (h2 : w.cell? ⟨gj, 0, none⟩ = some (.int .i64 id)) :
    Calls Tryd.prog 19 #[.bool false, .int .i64 what, .pointer (some ⟨gl, 0, none⟩), .pointer (some ⟨gj, 0, none⟩)] w fun e w' => (∃ v, e = .returned v) ∧ Below w.heap.size w w' := by
  have hu43 := Tryd.underlying43
  have hu34 := Tryd.underlying34
  have hu48 := Tryd.underlying48
  go_enter Tryd.func19, Tryd.ntmps19
  go_wp2_with (first
   | ((with_reducible refine (put0_c _ _ _).mono ?_); rintro e w2 ⟨⟨v, rfl⟩, rfl⟩))
  go_end0
  exact ⟨⟨_, rfl⟩, (Below.refl _ w).alloc (Nat.le_refl _) _⟩
theorem node0_c (what : Int) (gl gj gn : Nat) (pl : Value) (id n : Int) (w : World) (h1 : w.cell? ⟨gl, 0, none⟩ = some pl) (h2 : w.cell? ⟨gj, 0, none⟩ = some (.int .i64 id)) (h3 : w.cell? ⟨gn, 0, none⟩ = some (.int .i64 n)) :
    Calls Tryd.prog 21 #[.bool false, .int .i64 what, .pointer (some ⟨gl, 0, none⟩), .pointer (some ⟨gj, 0, none⟩), .pointer (some ⟨gn, 0, none⟩)] w fun e w' => (∃ v, e = .returned v) ∧ Below w.heap.size w w' := by
  have hu43 := Tryd.underlying43
  have hu34 := Tryd.underlying34
  have hu48 := Tryd.underlying48
  go_enter Tryd.func21, Tryd.ntmps21
  go_wp2_with (first
   | ((with_reducible refine (put0_c _ _ _).mono ?_); rintro e w2 ⟨⟨v, rfl⟩, rfl⟩))
  go_end0
  exact ⟨⟨_, rfl⟩, (Below.refl _ w).alloc (Nat.le_refl _) _⟩
theorem node1_c (what : Int) (gl gj gn g : Nat) (id n : Int) (w : World) (h1 : w.cell? ⟨gl, 0, none⟩ = some (.pointer (some ⟨g, 0, none⟩))) (h2 : w.cell? ⟨gj, 0, none⟩ = some (.int .i64 id)) (h3 : w.cell? ⟨gn, 0, none⟩ = some (.int .i64 n)) (hg : w.heap[g]? = some (.cells #[.slice none 0 0] 41 (0, 0))) :
    Calls Tryd.prog 21 #[.bool true, .int .i64 what, .pointer (some ⟨gl, 0, none⟩), .pointer (some ⟨gj, 0, none⟩), .pointer (some ⟨gn, 0, none⟩)] w fun e w' => (∃ v, e = .returned v) ∧ ∃ q c' zs, w.heap.size ≤ q ∧ w'.heap[q]? = some (.cells ([.int .i64 what, .int .i64 id, .int .i64 n] ++ zs).toArray 48 (0, 0)) ∧ HG 0 w [(g, #[.slice (some ⟨q, 0, none⟩) 1 c'], 41)] w' := by
  have hu43 := Tryd.underlying43
  have hu34 := Tryd.underlying34
  have hu48 := Tryd.underlying48
  have HGG := Aside0.mk hg
  clear hg
  go_enter Tryd.func21, Tryd.ntmps21
  have hF : RowAt (w.alloc (.cells #[.int .i64 what, .int .i64 id, .int .i64 n] 48)) ⟨w.heap.size, 0, none⟩ [.int .i64 what, .int .i64 id, .int .i64 n] := fun j u hj => by
    have := (blk_cell (blk_new w (.cells #[.int .i64 what, .int .i64 id, .int .i64 n] 48)) j).trans ((Array.getElem?_toList ..).symm.trans hj)
    rwa [show (⟨w.heap.size, 0, none⟩ : Addr).add j = ⟨w.heap.size, j, none⟩ by unfold Addr.add; split <;> simp_all]
  have HF := Aside0.mk hF
  clear hF
  go_wp2_with (first
   | ((with_reducible refine (put1_c g _ _ what id n _ (blk_alloc HGG.out _) HF.out).mono ?_); rintro e w2 ⟨⟨v, rfl⟩, q, c1, zs, hq, hb, H⟩))
  go_end0
  have hq2 : w.heap.size ≤ q := by rw [World.size_alloc] at hq; omega
  exact ⟨⟨_, rfl⟩, q, c1, zs, hq2, hb, H.unalloc⟩
end Go.Proofs.YtkbjlaknhedekaaDoor.Sm
