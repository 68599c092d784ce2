/- Names; what is busy, and outside. Conditions: those that each theorem states. -/
import Derived.Test.YtkbjlaknhedekaaDoorAu6
set_option linter.unusedVariables false
set_option linter.unusedSimpArgs false
/- Names; what is busy, and outside. -/
namespace Go.Proofs.YtkbjlaknhedekaaDoor.Sm
open Go Go.Proofs Go.RowKit Go.Proofs.BitsPlain Go.Proofs.YtkbjlaknhedekaaDoorW.PrintWords Go.Proofs.YtkbjlaknhedekaaDoorW.PrintLast Go.Proofs.YtkbjlaknhedekaaDoorW.PrintMore Go.Proofs.YtkbjlaknhedekaaDoor.PAuditNames
def textF (a : Int) : ByteArray := if a = 1 then (⟨#[119, 105, 100, 116, 104]⟩ : ByteArray) else if a = 2 then (⟨#[116, 119, 105, 99, 101]⟩ : ByteArray) else if a = 3 then (⟨#[98, 97, 114, 114, 101, 100]⟩ : ByteArray) else if a = 4 then (⟨#[102, 97, 108, 108, 101, 110]⟩ : ByteArray) else if a = 5 then (⟨#[108, 97, 116, 101]⟩ : ByteArray) else if a = 6 then (⟨#[116, 114, 105, 101, 115]⟩ : ByteArray) else if a = 7 then (⟨#[109, 105, 115, 115, 101, 100]⟩ : ByteArray) else if a = 8 then (⟨#[104, 101, 108, 100]⟩ : ByteArray) else if a = 9 then (⟨#[101, 97, 114, 108, 121]⟩ : ByteArray) else if a = 10 then (⟨#[115, 116, 114, 97, 121]⟩ : ByteArray) else (⟨#[]⟩ : ByteArray)
theorem zero40 (w : World) : (zeroValue 40).run Tryd.prog w = .ok (.agg #[.string (⟨#[]⟩ : ByteArray), .string (⟨#[]⟩ : ByteArray), .string (⟨#[]⟩ : ByteArray), .string (⟨#[]⟩ : ByteArray), .string (⟨#[]⟩ : ByteArray), .string (⟨#[]⟩ : ByteArray), .string (⟨#[]⟩ : ByteArray), .string (⟨#[]⟩ : ByteArray), .string (⟨#[]⟩ : ByteArray), .string (⟨#[]⟩ : ByteArray)]) w := by kernel_rfl
set_option maxRecDepth 100000 in
set_option maxHeartbeats 4000000 in
theorem text_c (a : Int) (w : World) : Calls Tryd.prog 4 #[.int .i64 a] w fun e w' => e = .returned (.string (textF a)) ∧ Below w.heap.size w w' := by
  have hu40 := Tryd.underlying40
  have H := HB.start w
  by_cases h1 : a < 1
  · have e : textF a = ⟨#[]⟩ := by unfold textF; rw [if_neg (by omega), if_neg (by omega), if_neg (by omega), if_neg (by omega), if_neg (by omega), if_neg (by omega), if_neg (by omega), if_neg (by omega), if_neg (by omega), if_neg (by omega)]
    have HE := Aside0.mk e
    clear e
    go_enter Tryd.func4, Tryd.ntmps4
    go_wp2_with (first
   | ((with_reducible refine gate_alloc rfl ?_); refine hb_alloc rfl rfl H zero40 ?_; intro gt W1 hgt H1; clear H; have H := H1; clear H1)
   | ((with_reducible refine gate_load rfl ?_); first
      | refine hb_load rfl rfl H rfl (k := 0) rfl Tryd.underlying9 rfl rfl ?_)
   | ((with_reducible refine gate_st rfl ?_); refine hb_storeRow rfl rfl rfl H rfl (k := 0) rfl rfl (by kernel_rfl) rfl (by rfl) ?_; intro W1 H1; clear H; simp only [List.setIfInBounds_toArray, List.set_cons_zero, List.set_cons_succ] at H1; have H := H1; clear H1))
    go_ret
    exact ⟨by rw [HE.out]; rfl, H.below⟩
  · by_cases h2 : 10 < a
    · have e : textF a = ⟨#[]⟩ := by unfold textF; rw [if_neg (by omega), if_neg (by omega), if_neg (by omega), if_neg (by omega), if_neg (by omega), if_neg (by omega), if_neg (by omega), if_neg (by omega), if_neg (by omega), if_neg (by omega)]
      have HE := Aside0.mk e
      clear e
      go_enter Tryd.func4, Tryd.ntmps4
      go_wp2_with (first
   | ((with_reducible refine gate_alloc rfl ?_); refine hb_alloc rfl rfl H zero40 ?_; intro gt W1 hgt H1; clear H; have H := H1; clear H1)
   | ((with_reducible refine gate_load rfl ?_); first
      | refine hb_load rfl rfl H rfl (k := 0) rfl Tryd.underlying9 rfl rfl ?_)
   | ((with_reducible refine gate_st rfl ?_); refine hb_storeRow rfl rfl rfl H rfl (k := 0) rfl rfl (by kernel_rfl) rfl (by rfl) ?_; intro W1 H1; clear H; simp only [List.setIfInBounds_toArray, List.set_cons_zero, List.set_cons_succ] at H1; have H := H1; clear H1))
      go_ret
      exact ⟨by rw [HE.out]; rfl, H.below⟩
    · rcases (show a = 1 ∨ a = 2 ∨ a = 3 ∨ a = 4 ∨ a = 5 ∨ a = 6 ∨ a = 7 ∨ a = 8 ∨ a = 9 ∨ a = 10 by omega) with rfl | rfl | rfl | rfl | rfl | rfl | rfl | rfl | rfl | rfl
      all_goals
        clear h1 h2
        go_enter Tryd.func4, Tryd.ntmps4
        go_wp2_with (first
   | ((with_reducible refine gate_alloc rfl ?_); refine hb_alloc rfl rfl H zero40 ?_; intro gt W1 hgt H1; clear H; have H := H1; clear H1)
   | ((with_reducible refine gate_load rfl ?_); first
      | refine hb_load rfl rfl H rfl (k := 0) rfl Tryd.underlying9 rfl rfl ?_)
   | ((with_reducible refine gate_st rfl ?_); refine hb_storeRow rfl rfl rfl H rfl (k := 0) rfl rfl (by kernel_rfl) rfl (by rfl) ?_; intro W1 H1; clear H; simp only [List.setIfInBounds_toArray, List.set_cons_zero, List.set_cons_succ] at H1; have H := H1; clear H1))
        go_ret
        exact ⟨rfl, H.below⟩
section
variable {P : Program} {ops : Array Oper} {Q : Exit → Act → World → Prop} {r : Lx} {o : Oper} {a : Act} {w W : World} {j : Nat}
end
theorem wp_calm2 {P : Program} {c : Code} {K : Act → World → Prop} {Q' : Exit → Act → World → Prop} {a : Act} {w : World} (h : c.wp P (Exit.then K (fun _ _ _ => False)) a w) : c.wp P (Exit.then K Q') a w :=
  wp_mono h fun e a w hh => by cases e <;> first | exact hh | exact hh.elim
theorem busy0_c (now part : Int) (A : Option Addr) (c : Nat) (l : List S33) (r0 r1 r2 r3 ret : Int) (w : World) : Calls Tryd.prog 7 #[.agg #[.int .i64 now, .int .i64 part, .slice A l.length c, .slice none 0 0, .int .i64 r0, .int .i64 r1, .int .u64 r2, .int .u64 r3, .bool false, .int .i64 ret]] w fun e w' => e = .returned (.int .u64 0) ∧ Below w.heap.size w w' := by
  have hu30 := Tryd.underlying30
  have hu24 := Tryd.underlying24
  have H := HB.start w
  go_enter Tryd.func7, Tryd.ntmps7
  go_wp2_with (first
   | ((with_reducible refine gate_dst (N := 1) rfl ?_); refine hb_box rfl rfl H rfl ?_; intro gv W1 hgv H1; clear H; have H := H1; clear H1)
   | ((with_reducible refine gate_load rfl ?_); first
      | refine hb_load rfl rfl H rfl (k := 0) rfl Tryd.underlying24 rfl rfl ?_))
  refine wp_loop_rounds 1 ?_
  rw [rounds_succ]
  go_wp2_with (first
   | ((with_reducible refine gate_dst (N := 1) rfl ?_); refine hb_box rfl rfl H rfl ?_; intro gv W1 hgv H1; clear H; have H := H1; clear H1)
   | ((with_reducible refine gate_load rfl ?_); first
      | refine hb_load rfl rfl H rfl (k := 0) rfl Tryd.underlying24 rfl rfl ?_))
  go_ret
  exact ⟨rfl, H.below⟩
theorem ones_f (x : Nat) (hx : x < 18446744073709551616) : bits_OnesCount64.f (x : Int) = some ((pop x : Nat) : Int) := by
  unfold bits_OnesCount64.f
  have h3 := ones_raw x hx _ _ _ rfl rfl rfl
  exact congrArg some (ones_end x hx _ _ _ _ h3 rfl rfl rfl)
theorem len_f (x : Nat) (hx : x < 18446744073709551616) : bits_Set_Len.f (x : Int) = some ((pop x : Nat) : Int) := by
  unfold bits_Set_Len.f
  rw [ones_f x hx]; rfl
theorem all_lt (n : Nat) : 2 ^ min n 64 - 1 < 18446744073709551616 := by
  have : 2 ^ min n 64 ≤ 2 ^ 64 := Nat.pow_le_pow_right (by omega) (Nat.min_le_right _ _)
  omega
/-- how many are outside -/
def outN (l : List S33) : Nat := pop (less (2 ^ min l.length 64 - 1) (inR l 0 l.length))
set_option maxRecDepth 100000 in
set_option maxHeartbeats 4000000 in
theorem outside_c (now part : Int) (A : Option Addr) (c : Nat) (l : List S33) (J : Value) (r0 r1 r2 r3 ret : Int) (w : World) (hC : Kd.C k33 w A l.length l) (hc : l.length ≤ c) (hl : l.length < 4611686018427387904) (hJ : J.cells = #[J]) :
    Calls Tryd.prog 6 #[.agg #[.int .i64 now, .int .i64 part, .slice A l.length c, J, .int .i64 r0, .int .i64 r1, .int .u64 r2, .int .u64 r3, .bool false, .int .i64 ret]] w fun e w' => e = .returned (.int .i64 (outN l : Nat)) ∧ Below w.heap.size w w' := by
  have hu30 := Tryd.underlying30
  have H := HB.start w
  have C13 := Aside0.mk (fun W => all_c now part A c l J r0 r1 r2 r3 false ret W hl hJ)
  have C15 := Aside0.mk (fun W (h : Below w.heap.size w W) => in_c now part A c l J r0 r1 r2 r3 false ret 0 W (Kd.C_below hC h) hc hl hJ)
  have hall := all_lt l.length
  have hin := inR_lt l 0 l.length
  have hlt : less (2 ^ min l.length 64 - 1) (inR l 0 l.length) < 18446744073709551616 := less_lt (n := 64) hall
  have C14 := Aside0.mk (fun W => bits_Set_Less.calls ((2 ^ min l.length 64 - 1 : Nat) : Int) (inR l 0 l.length : Nat) (less (2 ^ min l.length 64 - 1) (inR l 0 l.length) : Nat) W (by unfold bits_Set_Less.f; rw [bits_less _ _ hall hin]))
  have C16 := Aside0.mk (fun W => bits_Set_Len.calls _ _ W (len_f _ hlt))
  have HO : Aside0 (outN l = pop (less (2 ^ min l.length 64 - 1) (inR l 0 l.length))) := ⟨rfl⟩
  obtain ⟨x1, hx1⟩ : ∃ x, x = 2 ^ min l.length 64 - 1 := ⟨_, rfl⟩
  rw [← hx1] at C13 C14 C16 HO
  obtain ⟨x2, hx2⟩ : ∃ x, x = inR l 0 l.length := ⟨_, rfl⟩
  rw [← hx2] at C15 C14 C16 HO
  obtain ⟨x3, hx3⟩ : ∃ x, x = less x1 x2 := ⟨_, rfl⟩
  rw [← hx3] at C14 C16 HO
  have HJ := Aside0.mk hJ
  clear hall hin hlt hx1 hx2 hx3 hC hc hl hJ
  go_enter Tryd.func6, Tryd.ntmps6
  go_wp2_with (first
   | ((with_reducible refine gate_dst (N := 1) rfl ?_); refine hb_box rfl rfl H rfl ?_; intro gv W1 hgv H1; clear H; have H := H1; clear H1)
   | ((with_reducible refine gate_load rfl ?_); first
      | refine hb_load rfl rfl H rfl (k := 0) rfl Tryd.underlying4 rfl rfl ?_)
   | ((with_reducible refine (C16.out _).mono ?_); rintro e w2 ⟨rfl, B2⟩; replace H := H.drawn B2; clear B2))
  refine wp_calm2 ?_
  (refine lex_start (.t 0 (.t 2 (.e 1 (.e 3 (.e 4 (.t 5 .n)))))) (by kernel_rfl) (by decide +kernel) (H.drew.stat) (fun _ _ d _ _ h => by cases d <;> exact h) (fun _ => ?_)); replace H := H.drew
  repeat' (first
   | (refine lexg_load rfl rfl ?_; first
      | (refine lex_row rfl rfl rfl rfl rfl (k := 0) rfl Tryd.underlying30 rfl (by kernel_rfl) (by simp only [Act.put, List.setIfInBounds_toArray, List.set_cons_zero, List.set_cons_succ]; rfl) ?_))
   | (refine lex_call rfl rfl rfl rfl Tryd.func13 (by kernel_rfl) rfl (by simp only [List.map_toArray, List.map_cons, List.map_nil]; rfl) ?_; refine (C13.out _).mono ?_; rintro e w2 ⟨rfl, B2⟩; replace H := H.call B2; clear B2; refine ⟨_, rfl, H.stat, ?_⟩)
   | (refine lex_call rfl rfl rfl rfl Tryd.func15 (by kernel_rfl) rfl (by simp only [List.map_toArray, List.map_cons, List.map_nil]; rfl) ?_; refine (C15.out _ H.below).mono ?_; rintro e w2 ⟨rfl, B2⟩; replace H := H.call B2; clear B2; refine ⟨_, rfl, H.stat, ?_⟩)
   | (refine lex_call rfl rfl rfl rfl Tryd.func14 (by kernel_rfl) rfl (by simp only [List.map_toArray, List.map_cons, List.map_nil]; rfl) ?_; refine (C14.out _).mono ?_; rintro e w2 ⟨rfl, B2⟩; replace H := H.drawn B2; clear B2; refine ⟨_, rfl, H.stat, ?_⟩)
   | (refine lexg_pure ?_; refine lex_pure rfl rfl rfl (by intro W1 h1; go_simp; with_reducible rfl) (by simp only [Act.put, List.setIfInBounds_toArray, List.set_cons_zero, List.set_cons_succ]; rfl) ?_))
  refine lex_done ?_
  go_wp2_with (first
   | ((with_reducible refine gate_dst (N := 1) rfl ?_); refine hb_box rfl rfl H rfl ?_; intro gv W1 hgv H1; clear H; have H := H1; clear H1)
   | ((with_reducible refine gate_load rfl ?_); first
      | refine hb_load rfl rfl H rfl (k := 0) rfl Tryd.underlying4 rfl rfl ?_)
   | ((with_reducible refine (C16.out _).mono ?_); rintro e w2 ⟨rfl, B2⟩; replace H := H.drawn B2; clear B2))
  go_ret
  exact ⟨by rw [HO.out]; rfl, H.below⟩
end Go.Proofs.YtkbjlaknhedekaaDoor.Sm
