/- The nodes of a state: the program's walk. Conditions: those that each theorem states. -/
import Derived.Test.YtkbjlaknhedekaaDoorAuH
set_option linter.unusedVariables false
set_option linter.unusedSimpArgs false
/- The nodes of a state: the program's walk. -/
namespace Go.Proofs.YtkbjlaknhedekaaDoor.Sm
open Go Go.Proofs Go.RowKit Go.Proofs.BitsPlain Go.Proofs.YtkbjlaknhedekaaDoorW.PrintWords Go.Proofs.YtkbjlaknhedekaaDoorW.PrintLast Go.Proofs.YtkbjlaknhedekaaDoorW.PrintMore Go.Proofs.YtkbjlaknhedekaaDoor.PAuditNames
theorem in1_c (st mi be state : Int) (g : Nat) (w : World) (hg : w.heap[g]? = some (.cells #[.int .i64 state] 3 (0, 0))) :
    Calls Tryd.prog 27 #[.agg #[.int .i64 st, .int .i64 mi, .int .i64 be], .pointer (some ⟨g, 0, none⟩)] w fun e w' => e = .returned (.bool (st == state)) ∧ Below w.heap.size w w' := by
  have H := HG.open1 hg
  have HGG := Aside0.mk hg
  have hu33 := Tryd.underlying33
  clear hg
  go_enter Tryd.func27, Tryd.ntmps27
  go_wp2_with (first
   | ((with_reducible refine gate_box rfl ?_); refine hb_box rfl rfl H rfl ?_; intro gb W1 hgb H1; clear H; have H := H1; clear H1)
   | ((with_reducible refine gate_load rfl ?_); first
      | refine hb_load rfl rfl H rfl (k := 0) rfl Tryd.underlying3 rfl rfl ?_
      | refine hb_load rfl rfl H rfl (k := 1) rfl Tryd.underlying3 rfl rfl ?_))
  go_ret
  exact ⟨rfl, (H.drop (by omega)).same1 HGG.out⟩
/-- the nodes of a state, of the first ones -/
def inR (l : List S33) (state : Int) : Nat → Nat
  | 0 => 0
  | i + 1 => if ((l.getD i z33).f0 == state) = true then inR l state i ||| bitOf i else inR l state i
theorem inR_lt (l : List S33) (state : Int) : ∀ i, inR l state i < 18446744073709551616
  | 0 => by unfold inR; omega
  | i + 1 => by
    unfold inR
    split
    · exact or_lt _ _ (inR_lt l state i) (bitOf_lt i)
    · exact inR_lt l state i
theorem bit_f (n : Nat) : bits_bit.f (n : Int) = some ((bitOf n : Nat) : Int) := by
  unfold bits_bit.f bitOf
  by_cases hn : n < 64
  · rw [if_neg (by omega), if_neg (by omega), if_pos (by omega), if_pos hn]
    exact congrArg some (shl_bit n hn)
  · rw [if_neg (by omega), if_pos (by omega), if_neg hn]; rfl
theorem with_f (o n : Nat) (ho : o < 18446744073709551616) : bits_Set_With.f (o : Int) (n : Int) = some ((o ||| bitOf n : Nat) : Int) := by
  unfold bits_Set_With.f
  rw [bit_f n]
  simp only [Option.bind_some]
  rw [bits_or_u64_nat o _ ho (bitOf_lt n)]
theorem zero33 (w : World) : (zeroValue 33).run Tryd.prog w = .ok (.agg #[.int .i64 0, .int .i64 0, .int .i64 0]) w := by kernel_rfl
set_option maxRecDepth 100000 in
set_option maxHeartbeats 4000000 in
theorem that_c (now part : Int) (A : Option Addr) (c : Nat) (l : List S33) (J : Value) (r0 r1 r2 r3 : Int) (rolls : Bool) (ret : Int) (state : Int) (g : Nat) (w : World) (hC : Kd.C k33 w A l.length l) (hc : l.length ≤ c) (hl : l.length < 4611686018427387904) (hJ : J.cells = #[J]) (hg : w.heap[g]? = some (.cells #[.int .i64 state] 3 (0, 0))) :
    Calls Tryd.prog 26 #[.agg #[.int .i64 now, .int .i64 part, .slice A l.length c, J, .int .i64 r0, .int .i64 r1, .int .u64 r2, .int .u64 r3, .bool rolls, .int .i64 ret], .func (.func 27) #[] #[.pointer (some ⟨g, 0, none⟩)]] w fun e w' => e = .returned (.int .u64 (inR l state l.length : Nat)) ∧ Below w.heap.size w w' := by
  have hu33 := Tryd.underlying33
  have hu23 := Tryd.underlying23
  have hu30 := Tryd.underlying30
  have H := HB.start w
  have HC := Aside0.mk hC
  have HGG := Aside0.mk hg
  have HL := Aside0.mk hl
  have HCC := Aside0.mk hc
  have HJ := Aside0.mk hJ
  clear hg hC hl hc hJ
  go_enter Tryd.func26, Tryd.ntmps26
  go_wp2_with (first
   | ((with_reducible refine gate_box rfl ?_); refine hb_box rfl rfl H rfl ?_; intro gb W1 hgb H1; clear H; have H := H1; clear H1)
   | ((with_reducible refine gate_load rfl ?_); first
      | refine hb_load rfl rfl H rfl (k := 0) rfl Tryd.underlying23 rfl rfl ?_))
  have HB1 := Aside0.mk H.below
  clear H
  go_loopw [5, 11] (fun v5 v11 wr => ∃ i : Nat, i ≤ l.length ∧ v5 = .int .u64 (inR l state i : Nat) ∧ v11 = .int .i64 i ∧ Aside0 (Below w.heap.size w wr)) (fun _ v11 _ => l.length - (intOf v11).toNat)
  case atStart => exact ⟨0, Nat.zero_le _, rfl, rfl, HB1⟩
  case round =>
    obtain ⟨i, hi, rfl, rfl, HW⟩ := hrel
    by_cases hlt : i < l.length
    · obtain ⟨ad, rfl, hrw⟩ := row33 HC.out i hlt hlt
      have HRW := Aside0.mk (hrw.kept HW.out)
      have h1 : (i : Int) < l.length := by omega
      have h0 : (0 : Int) ≤ i := by omega
      have hst : inR l state (i + 1) = if ((l.getD i z33).f0 == state) = true then inR l state i ||| bitOf i else inR l state i := by rw [inR]
      have he : l.getD i z33 = l[i] := by simp [List.getD_eq_getElem?_getD, List.getElem?_eq_getElem hlt]
      rw [he] at hst
      obtain ⟨x, hx⟩ : ∃ x, x = l[i] := ⟨_, rfl⟩
      rw [← hx] at hst HRW
      have HST := Aside0.mk hst
      have hwr : wrap64 ((i : Int) + 1) = ((i + 1 : Nat) : Int) := by have := HL.out; unfold wrap64; omega
      have HWR := Aside0.mk hwr
      clear hwr
      have H := HB.of HW.out
      have HG1 := Aside0.mk (blk_below HGG.out HW.out)
      have C27 := Aside0.mk (fun W (h : W.heap[g]? = some (.cells #[.int .i64 state] 3 (0, 0))) => in1_c x.f0 x.f1 x.f2 state g W h)
      have CW := Aside0.mk (fun W => bits_Set_With.calls (inR l state i : Nat) (i : Nat) _ W (with_f _ i (inR_lt l state i)))
      obtain ⟨b, hb⟩ : ∃ b, b = (x.f0 == state) := ⟨_, rfl⟩
      rw [← hb] at C27
      have HBB := Aside0.mk hb
      clear hst hrw he hx hb
      cases b
      · go_wp2_with (first
   | ((with_reducible refine (C27.out _ (blk_below HGG.out H.below)).mono ?_); rintro e w2 ⟨rfl, B2⟩; replace H := H.call B2; clear B2)
   | ((with_reducible refine (CW.out _).mono ?_); rintro e w2 ⟨rfl, B2⟩; replace H := H.drawn B2; clear B2)
   | ((with_reducible refine gate_load rfl ?_); first
      | refine hb_elem rfl rfl (HRW.out.kept (Below.refl _ _)) rfl Tryd.underlying33 rfl (by kernel_rfl) ?_
      | refine hb_loadRow rfl rfl H rfl (k := 0) rfl Tryd.underlying33 rfl (by kernel_rfl) ?_)
   | ((with_reducible refine gate_alloc rfl ?_); refine hb_alloc rfl rfl H zero33 ?_; intro g2 W2 hg2 H1; clear H; have H := H1; clear H1)
   | ((with_reducible refine gate_st rfl ?_); refine hb_storeRow rfl rfl rfl H rfl (k := 0) rfl rfl (by kernel_rfl) rfl (by rfl) ?_; intro W1 H1; clear H; simp only [List.setIfInBounds_toArray, List.set_cons_zero, List.set_cons_succ] at H1; have H := H1; clear H1))
        go_roundw
        case rel => exact ⟨i + 1, hlt, by rw [HST.out, ← HBB.out]; rfl, by rw [HWR.out], ⟨H.below⟩⟩
        case measure => rw [HWR.out]; simp only [intOf]; omega
      · go_wp2_with (first
   | ((with_reducible refine (C27.out _ (blk_below HGG.out H.below)).mono ?_); rintro e w2 ⟨rfl, B2⟩; replace H := H.call B2; clear B2)
   | ((with_reducible refine (CW.out _).mono ?_); rintro e w2 ⟨rfl, B2⟩; replace H := H.drawn B2; clear B2)
   | ((with_reducible refine gate_load rfl ?_); first
      | refine hb_elem rfl rfl (HRW.out.kept (Below.refl _ _)) rfl Tryd.underlying33 rfl (by kernel_rfl) ?_
      | refine hb_loadRow rfl rfl H rfl (k := 0) rfl Tryd.underlying33 rfl (by kernel_rfl) ?_)
   | ((with_reducible refine gate_alloc rfl ?_); refine hb_alloc rfl rfl H zero33 ?_; intro g2 W2 hg2 H1; clear H; have H := H1; clear H1)
   | ((with_reducible refine gate_st rfl ?_); refine hb_storeRow rfl rfl rfl H rfl (k := 0) rfl rfl (by kernel_rfl) rfl (by rfl) ?_; intro W1 H1; clear H; simp only [List.setIfInBounds_toArray, List.set_cons_zero, List.set_cons_succ] at H1; have H := H1; clear H1))
        go_roundw
        case rel => exact ⟨i + 1, hlt, by rw [HST.out, ← HBB.out]; rfl, by rw [HWR.out], ⟨H.below⟩⟩
        case measure => rw [HWR.out]; simp only [intOf]; omega
    · obtain rfl : i = l.length := by omega
      have h1 : ¬ (l.length : Int) < l.length := by omega
      go_wp2
      go_ret
      exact ⟨rfl, HW.out⟩
set_option maxRecDepth 100000 in
set_option maxHeartbeats 4000000 in
theorem in_c (now part : Int) (A : Option Addr) (c : Nat) (l : List S33) (J : Value) (r0 r1 r2 r3 : Int) (rolls : Bool) (ret : Int) (state : Int) (w : World) (hC : Kd.C k33 w A l.length l) (hc : l.length ≤ c) (hl : l.length < 4611686018427387904) (hJ : J.cells = #[J]) :
    Calls Tryd.prog 15 #[.agg #[.int .i64 now, .int .i64 part, .slice A l.length c, J, .int .i64 r0, .int .i64 r1, .int .u64 r2, .int .u64 r3, .bool rolls, .int .i64 ret], .int .i64 state] w fun e w' => e = .returned (.int .u64 (inR l state l.length : Nat)) ∧ Below w.heap.size w w' := by
  have hu30 := Tryd.underlying30
  have H := HB.start w
  have HC := Aside0.mk hC
  have HL := Aside0.mk hl
  have HCC := Aside0.mk hc
  have HJ := Aside0.mk hJ
  clear hC hl hc hJ
  go_enter Tryd.func15, Tryd.ntmps15
  go_wp2_with (first
   | ((with_reducible refine gate_box rfl ?_); first
      | (refine hb_box rfl rfl H rfl ?_; intro gb W1 hgb H1; clear H; have H := H1; clear H1)
      | (refine hb_box1 rfl rfl H rfl rfl ?_; intro gs W2 hgs H1; clear H; have H := H1; clear H1))
   | ((with_reducible refine gate_load rfl ?_); refine hb_loadRow rfl rfl H rfl (k := 1) rfl Tryd.underlying30 rfl (by kernel_rfl) ?_)
   | ((with_reducible refine (that_c now part A c l J r0 r1 r2 r3 rolls ret state _ _ (Kd.C_below HC.out H.below) HCC.out HL.out HJ.out (H.get (k := 0) rfl)).mono ?_); rintro e w2 ⟨rfl, B2⟩; replace H := H.call B2; clear B2))
  go_ret
  exact ⟨rfl, H.below⟩
theorem first_f (n : Nat) : bits_First.f (n : Int) = some ((2 ^ min n 64 - 1 : Nat) : Int) := by
  unfold bits_First.f
  by_cases h1 : n < 1
  · obtain rfl : n = 0 := by omega
    rw [if_pos (by omega)]; rfl
  · rw [if_neg (by omega)]
    by_cases h2 : 64 ≤ n
    · rw [if_pos (by omega), Nat.min_eq_right h2]; rfl
    · rw [if_neg (by omega), if_pos (by omega), Nat.min_eq_left (by omega)]
      have hp : 2 ^ n < 2 ^ 64 := Nat.pow_lt_pow_right (by omega) (by omega)
      have hp0 : 0 < 2 ^ n := Nat.two_pow_pos n
      have hs : shl .u64 1 (n : Int) = ((2 ^ n : Nat) : Int) := shl_bit n (by omega)
      rw [hs, IntKind.wrap_u64]
      congr 1
      omega
theorem all_c (now part : Int) (A : Option Addr) (c : Nat) (l : List S33) (J : Value) (r0 r1 r2 r3 : Int) (rolls : Bool) (ret : Int) (w : World) (hl : l.length < 4611686018427387904) (hJ : J.cells = #[J]) :
    Calls Tryd.prog 13 #[.agg #[.int .i64 now, .int .i64 part, .slice A l.length c, J, .int .i64 r0, .int .i64 r1, .int .u64 r2, .int .u64 r3, .bool rolls, .int .i64 ret]] w fun e w' => e = .returned (.int .u64 (2 ^ min l.length 64 - 1 : Nat)) ∧ Below w.heap.size w w' := by
  have hu30 := Tryd.underlying30
  have H := HB.start w
  have HL := Aside0.mk hl
  have HJ := Aside0.mk hJ
  clear hl hJ
  have CF := Aside0.mk (fun W => bits_First.calls (l.length : Int) _ W (first_f l.length))
  go_enter Tryd.func13, Tryd.ntmps13
  go_wp2_with (first
   | ((with_reducible refine (CF.out _).mono ?_); rintro e w2 ⟨rfl, B2⟩; replace H := H.drawn B2; clear B2)
   | (first
   | ((with_reducible refine gate_box rfl ?_); refine hb_box rfl rfl H rfl ?_; intro gb W1 hgb H1; clear H; have H := H1; clear H1)
   | ((with_reducible refine gate_load rfl ?_); first
      | refine hb_load rfl rfl H rfl (k := 0) rfl Tryd.underlying23 rfl rfl ?_)))
  go_ret
  exact ⟨rfl, H.below⟩
end Go.Proofs.YtkbjlaknhedekaaDoor.Sm
