/- A view without jobs and without a drain; what is outside; names. Conditions: those that each theorem states. -/
import Derived.Test.YtkbjlaknhedekaaDoorAu2
set_option linter.unusedVariables false
set_option linter.unusedSimpArgs false
/- A view without jobs and without a drain; what is outside; names. -/
namespace Go.Proofs.YtkbjlaknhedekaaDoor.Sm
open Go Go.Proofs Go.RowKit Go.Proofs.BitsPlain Go.Proofs.YtkbjlaknhedekaaDoorW.PrintWords Go.Proofs.YtkbjlaknhedekaaDoorW.PrintLast Go.Proofs.YtkbjlaknhedekaaDoorW.PrintMore Go.Proofs.YtkbjlaknhedekaaDoor.PAuditNames
theorem drain0_c (L : Value) (hL : L.cells = #[L]) (now part : Int) (A : Option Addr) (c : Nat) (l : List S33) (J : Value) (r0 r1 r2 r3 ret : Int) (hJ : J.cells = #[J]) (w : World) :
    Calls Tryd.prog 12 #[L, .agg #[.int .i64 now, .int .i64 part, .slice A l.length c, J, .int .i64 r0, .int .i64 r1, .int .u64 r2, .int .u64 r3, .bool false, .int .i64 ret]] w fun e w' => (∃ v, e = .returned v) ∧ Below w.heap.size w w' := by
  have hu30 := Tryd.underlying30
  have H := HB.start w
  have HJ := Aside0.mk hJ
  have HLL := Aside0.mk hL
  clear hJ hL
  go_enter Tryd.func12, Tryd.ntmps12
  go_wp2_with (first
   | ((with_reducible refine gate_dst (N := 2) rfl ?_); refine hb_box1 rfl rfl H rfl HLL.out ?_; intro gl W1 hgl H1; clear H; have H := H1; clear H1)
   | ((with_reducible refine gate_dst (N := 3) rfl ?_); refine hb_box rfl rfl H rfl ?_; intro gv W1 hgv H1; clear H; have H := H1; clear H1)
   | ((with_reducible refine gate_load rfl ?_); first
      | refine hb_load rfl rfl H rfl (k := 0) rfl Tryd.underlying4 rfl rfl ?_))
  exact bodyPost_ret (results_none rfl _ _ _) rfl ⟨⟨_, rfl⟩, H.below⟩
theorem zero41 (w : World) : (zeroValue 41).run Tryd.prog w = .ok (.slice none 0 0) w := by kernel_rfl
set_option maxHeartbeats 1000000 in
theorem check0_c (now part : Int) (A : Option Addr) (c : Nat) (l : List S33) (r0 r1 r2 r3 ret : Int) (w : World) :
    Calls Tryd.prog 5 #[.agg #[.int .i64 now, .int .i64 part, .slice A l.length c, .slice none 0 0, .int .i64 r0, .int .i64 r1, .int .u64 r2, .int .u64 r3, .bool false, .int .i64 ret]] w fun e w' => e = .returned (.slice none 0 0) ∧ Below w.heap.size w w' := by
  have hu30 := Tryd.underlying30
  have hu24 := Tryd.underlying24
  have H := HB.start w
  go_enter Tryd.func5, Tryd.ntmps5
  go_wp2_with (first
   | ((with_reducible refine gate_dst (N := 1) rfl ?_); refine hb_box rfl rfl H rfl ?_; intro gv W1 hgv H1; clear H; have H := H1; clear H1)
   | ((with_reducible refine gate_alloc rfl ?_); refine hb_alloc1 rfl rfl H zero41 rfl ?_; intro gl W1 hgl H1; clear H; have H := H1; clear H1)
   | ((with_reducible refine gate_load rfl ?_); first
      | refine hb_load rfl rfl H rfl (k := 1) rfl Tryd.underlying24 rfl rfl ?_
      | refine hb_load rfl rfl H rfl (k := 0) rfl Tryd.underlying24 rfl rfl ?_
      | refine hb_load rfl rfl H rfl (k := 0) rfl Tryd.underlying41 rfl rfl ?_
      | refine hb_loadRow rfl rfl H rfl (k := 1) rfl Tryd.underlying30 rfl (by kernel_rfl) ?_
      | refine hb_loadRow rfl rfl H rfl (k := 0) rfl Tryd.underlying30 rfl (by kernel_rfl) ?_)
   | ((with_reducible refine (drain0_c _ rfl now part A c l (.slice none 0 0) r0 r1 r2 r3 ret rfl _).mono ?_); rintro e w2 ⟨⟨v, rfl⟩, B2⟩; replace H := H.call B2; clear B2))
  refine wp_loop_rounds 1 ?_
  rw [rounds_succ]
  go_wp2_with (first
   | ((with_reducible refine gate_dst (N := 1) rfl ?_); refine hb_box rfl rfl H rfl ?_; intro gv W1 hgv H1; clear H; have H := H1; clear H1)
   | ((with_reducible refine gate_alloc rfl ?_); refine hb_alloc1 rfl rfl H zero41 rfl ?_; intro gl W1 hgl H1; clear H; have H := H1; clear H1)
   | ((with_reducible refine gate_load rfl ?_); first
      | refine hb_load rfl rfl H rfl (k := 1) rfl Tryd.underlying24 rfl rfl ?_
      | refine hb_load rfl rfl H rfl (k := 0) rfl Tryd.underlying24 rfl rfl ?_
      | refine hb_load rfl rfl H rfl (k := 0) rfl Tryd.underlying41 rfl rfl ?_
      | refine hb_loadRow rfl rfl H rfl (k := 1) rfl Tryd.underlying30 rfl (by kernel_rfl) ?_
      | refine hb_loadRow rfl rfl H rfl (k := 0) rfl Tryd.underlying30 rfl (by kernel_rfl) ?_)
   | ((with_reducible refine (drain0_c _ rfl now part A c l (.slice none 0 0) r0 r1 r2 r3 ret rfl _).mono ?_); rintro e w2 ⟨⟨v, rfl⟩, B2⟩; replace H := H.call B2; clear B2))
  go_ret
  exact ⟨rfl, H.below⟩
end Go.Proofs.YtkbjlaknhedekaaDoor.Sm
