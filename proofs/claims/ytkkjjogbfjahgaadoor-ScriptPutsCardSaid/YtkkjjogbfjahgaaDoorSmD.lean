/- The reference's Read of a command, Right of a step, and its cursor: contracts. Conditions: bytes, fewer than 2^47. -/
import Derived.Test.YtkkjjogbfjahgaaDoorHB
import Derived.Test.YtkkjjogbfjahgaaDoorSmC
import Derived.Test.YtkkjjogbfjahgaaDoorSameI
import Derived.Test.YtkkjjogbfjahgaaDoorScRead
import Derived.Test.YtkkjjogbfjahgaaDoorPScx36
import Derived.Test.YtkkjjogbfjahgaaDoorPScx37
import Derived.Test.YtkkjjogbfjahgaaDoorPScx2
set_option linter.unusedVariables false
set_option linter.unusedSimpArgs false
namespace Go.Proofs.YtkkjjogbfjahgaaDoor.Sm
open Go Go.Proofs Go.RowKit Go.Proofs.CodBytes Go.Proofs.YtkkjjogbfjahgaaDoorW.PrintWords Go.Proofs.YtkkjjogbfjahgaaDoorW.PrintLast Go.Proofs.YtkkjjogbfjahgaaDoorW.PrintMore Go.Proofs.YtkkjjogbfjahgaaDoor.PSc Go.Proofs.YtkkjjogbfjahgaaDoor.CodSame Go.Proofs.YtkkjjogbfjahgaaDoor.Cur Go.Proofs.YtkkjjogbfjahgaaDoor.Sc
/-- the reference's cursor -/
def cuA (bs : List Int) (e : Int) : Array Value := #[.string (strOfNums bs), .int .i64 e]
def By (bs : List Int) : Prop := (∀ x ∈ bs, 0 ≤ x ∧ x < 256) ∧ bs.length < 140737488355328
theorem refInt_c (bs : List Int) (e : Int) (h : By bs) (w : World) : Calls Tryd.prog 22 #[.agg (cuA bs e)] w fun ev w' => ev = .returned (.tuple #[.agg (cuA (Cur.intOf bs e).2.1 (Cur.intOf bs e).2.2), .int .i64 (Cur.intOf bs e).1]) ∧ Below w.heap.size w w' :=
  berthingref02_Cursor_Int.calls 30 _ _ _ _ _ _ (int_same 30 (by omega) bs h.1 h.2 e).1
theorem By.intOf {bs : List Int} (h : By bs) (e : Int) : By (Cur.intOf bs e).2.1 := by
  refine ⟨fun x hx => h.1 x (intOf_sub bs e x hx), ?_⟩
  have := intOf_le bs e
  have := h.2
  omega
theorem refEnd_c (bs : List Int) (e : Int) (w : World) : Calls Tryd.prog 39 #[.agg (cuA bs e)] w fun ev w' => ev = .returned (.int .i64 (endOf bs e)) ∧ Below w.heap.size w w' := by
  refine berthingref02_Cursor_End.calls _ _ _ _ ?_
  unfold berthingref02_Cursor_End.f endOf
  have hl : (strOfNums bs).toList = ([] : List UInt8) ↔ bs.length = 0 := by
    rw [ByteArray.toList_eq, ← List.length_eq_zero_iff, ← str_size bs]; rfl
  by_cases he : e = 0
  · subst he
    rw [if_pos rfl]
    by_cases hb : bs.length = 0
    · rw [if_pos (hl.2 hb), if_neg (by omega)]
    · rw [if_neg (fun hh => hb (hl.1 hh)), if_pos (by omega)]
  · rw [if_neg he, if_neg (fun hh => he hh.1)]
theorem maskF_len (f : ByteArray) : ∀ (n i : Nat) (F : List Int), (maskF f n i F).length = F.length
  | 0, _, _ => rfl
  | n + 1, i, F => by rw [maskF, maskF_len f n]; split <;> simp
theorem cleanR_len (k : Int) (F : List Int) (h : F.length = 11) : (cleanR k F).2.length = 11 := by
  unfold cleanR; split
  · rfl
  · rw [maskF_len]; exact h
def kindR (v : Int) : Int := if 1 ≤ v ∧ v ≤ 12 then v else 0
/-- what the reference reads of a command's bytes -/
def readR (bs : List Int) : (Int × List Int) × Int :=
  let r := intsN 12 bs 0
  let k := kindR (r.1.getD 0 0)
  if endOf r.2.1 r.2.2 = 0 ∧ rightR k r.1.tail = true ∧ cleanR k r.1.tail = (k, r.1.tail) then ((k, r.1.tail), 0) else ((0, [0, 0, 0, 0, 0, 0, 0, 0, 0, 0, 0]), 11)
theorem list11 : ∀ (xs : List Int), xs.length = 11 → ∃ v0 v1 v2 v3 v4 v5 v6 v7 v8 v9 v10, xs = [v0, v1, v2, v3, v4, v5, v6, v7, v8, v9, v10]
  | [v0, v1, v2, v3, v4, v5, v6, v7, v8, v9, v10], _ => ⟨_, _, _, _, _, _, _, _, _, _, _, rfl⟩
theorem zero56 (w : World) : (zeroValue 56).run Tryd.prog w = .ok (.agg #[.string (⟨#[]⟩ : ByteArray), .int .i64 0]) w := by kernel_rfl
theorem set_rep (xs : List Int) (n i : Nat) (v : Int) (hi : xs.length = i) : (xs ++ List.replicate (n + 1) (0 : Int)).set i v = (xs ++ [v]) ++ List.replicate n 0 := by
  subst hi
  rw [List.set_append_right _ _ (Nat.le_refl _)]
  simp [List.replicate_succ]
attribute [local go_sem high] eqA32
set_option maxRecDepth 100000 in
set_option maxHeartbeats 4000000 in
theorem read22_c (bs : List Int) (hB : By bs) (w : World) : Calls Tryd.prog 21 #[.string (strOfNums bs)] w fun e w' => e = .returned (.tuple #[.agg (rcA (readR bs).1.1 (readR bs).1.2), .int .i64 (readR bs).2]) ∧ Below w.heap.size w w' := by
  have hu32 := Tryd.underlying32
  have hu30 := Tryd.underlying30
  have hu56 := Tryd.underlying56
  have H := HB.start w
  obtain ⟨v0, b1, e1, h1⟩ : ∃ v0 b1 e1, Cur.intOf bs 0 = (v0, b1, e1) := ⟨_, _, _, rfl⟩
  have hB1 : By b1 := by have := hB.intOf 0; rw [h1] at this; exact this
  obtain ⟨F, bE, eE, h2⟩ : ∃ F bE eE, intsN 11 b1 e1 = (F, bE, eE) := ⟨_, _, _, rfl⟩
  have hF : F.length = 11 := by have := intsN_len 11 b1 e1; rw [h2] at this; exact this
  have hN : intsN 12 bs 0 = (v0 :: F, bE, eE) := by rw [intsN_step h1, h2]
  obtain ⟨R, hR⟩ : ∃ R, R = readR bs := ⟨_, rfl⟩
  rw [← hR]
  have hR2 : R = (if endOf bE eE = 0 ∧ rightR (kindR v0) F = true ∧ cleanR (kindR v0) F = (kindR v0, F) then ((kindR v0, F), 0) else ((0, [0, 0, 0, 0, 0, 0, 0, 0, 0, 0, 0]), 11)) := by
    rw [hR]; unfold readR; simp only [hN, List.tail_cons, List.getD_cons_zero]
  have HR := Aside0.mk hR2
  have H2 := Aside0.mk h2
  have HF := Aside0.mk hF
  have C1 := refInt_c bs 0 hB
  simp only [h1] at C1
  have HC := Aside0.mk C1
  have HB1 := Aside0.mk hB1
  clear hR hR2 hN h1 hF hB hB1 C1 h2
  have hs : (1 ≤ v0 ∧ v0 ≤ 12 ∧ Aside0 (kindR v0 = v0)) ∨ (1 ≤ v0 ∧ ¬ v0 ≤ 12 ∧ Aside0 (kindR v0 = 0)) ∨ (¬ 1 ≤ v0 ∧ Aside0 (kindR v0 = 0)) := by
    unfold kindR
    by_cases h1 : 1 ≤ v0
    · by_cases h2 : v0 ≤ 12
      · exact .inl ⟨h1, h2, ⟨if_pos ⟨h1, h2⟩⟩⟩
      · exact .inr (.inl ⟨h1, h2, ⟨if_neg (fun h => h2 h.2)⟩⟩)
    · exact .inr (.inr ⟨h1, ⟨if_neg (fun h => h1 h.1)⟩⟩)
  rcases hs with ⟨hv1, hv2, HK⟩ | ⟨hv1, hv2, HK⟩ | ⟨hv1, HK⟩
  all_goals
    go_enter Tryd.func21, Tryd.ntmps21
    go_wp2_with (first
   | (go_at_call 22; refine (HC.out _).mono ?_; rintro ev w2 ⟨rfl, B2⟩; replace H := H.call B2; clear B2)
   | ((with_reducible refine gate_dst (N := 2) rfl ?_); refine hb_alloc rfl rfl H zero32 ?_; intro gz W1 hgz H1; clear H; have H := H1; clear H1)
   | ((with_reducible refine gate_dst (N := 4) rfl ?_); refine hb_alloc rfl rfl H zero56 ?_; intro gc W1 hgc H1; clear H; have H := H1; clear H1)
   | ((with_reducible refine gate_dst (N := 6) rfl ?_); refine hb_alloc rfl rfl H zero32 ?_; intro gx W1 hgx H1; clear H; have H := H1; clear H1)
   | ((with_reducible refine gate_load rfl ?_); first
      | refine hb_load rfl rfl H rfl (k := 0) rfl Tryd.underlying3 rfl rfl ?_
      | refine hb_loadRow rfl rfl H rfl (k := 0) rfl Tryd.underlying56 rfl (by kernel_rfl) ?_
      | refine hb_load rfl rfl H rfl (k := 1) rfl Tryd.underlying3 rfl rfl ?_
      | refine hb_loadRow rfl rfl H rfl (k := 1) rfl Tryd.underlying56 rfl (by kernel_rfl) ?_
      | refine hb_load rfl rfl H rfl (k := 2) rfl Tryd.underlying3 rfl rfl ?_
      | refine hb_loadRow rfl rfl H rfl (k := 2) rfl Tryd.underlying56 rfl (by kernel_rfl) ?_)
   | ((with_reducible refine gate_st rfl ?_); (first
      | refine hb_storeRow rfl rfl rfl H rfl (k := 0) rfl rfl (by kernel_rfl) rfl (by rfl) ?_
      | refine hb_storeI rfl rfl rfl H rfl (k := 0) rfl rfl (by kernel_rfl) rfl ?_
      | refine hb_storeRow rfl rfl rfl H rfl (k := 1) rfl rfl (by kernel_rfl) rfl (by rfl) ?_
      | refine hb_storeI rfl rfl rfl H rfl (k := 1) rfl rfl (by kernel_rfl) rfl ?_
      | refine hb_storeRow rfl rfl rfl H rfl (k := 2) rfl rfl (by kernel_rfl) rfl (by rfl) ?_
      | refine hb_storeI rfl rfl rfl H rfl (k := 2) rfl rfl (by kernel_rfl) rfl ?_); intro W1 H1; clear H; simp only [List.setIfInBounds_toArray, List.set_cons_zero, List.set_cons_succ] at H1; have H := H1; clear H1))
    go_loopw [7] (fun v7 wr => ∃ (i : Nat) (xs bs' ys : List Int) (e' : Int), i ≤ 11 ∧ v7 = .int .i64 i ∧ xs.length = i ∧ By bs' ∧ intsN (11 - i) bs' e' = (ys, bE, eE) ∧ xs ++ ys = F ∧ HB w [(gx, rcA (kindR v0) (xs ++ List.replicate (11 - i) 0), 32), (gc, cuA bs' e', 56), (gz, #[.int .i64 0, .int .i64 0, .int .i64 0, .int .i64 0, .int .i64 0, .int .i64 0, .int .i64 0, .int .i64 0, .int .i64 0, .int .i64 0, .int .i64 0, .int .i64 0], 32)] wr) (fun v7 _ => 11 - (RowKit.intOf v7).toNat)
    case atStart => exact ⟨0, [], b1, F, e1, by omega, rfl, rfl, HB1.out, H2.out, rfl, by rw [HK.out]; exact H⟩
    case round =>
      clear H
      obtain ⟨i, xs, bs', ys, e', hi, rfl, hx, hby, hys, hF, H⟩ := hrel
      have HX := Aside0.mk hx
      have HY := Aside0.mk hys
      have HFF := Aside0.mk hF
      have HBY := Aside0.mk hby
      clear hx hys hF hby
      by_cases hlt : i < 11
      · have h0 : (0 : Int) ≤ i := by omega
        have hl2 : (i : Int) < 11 := by omega
        obtain ⟨v, b2, e2, h1⟩ : ∃ v b2 e2, Cur.intOf bs' e' = (v, b2, e2) := ⟨_, _, _, rfl⟩
        have hB2 : By b2 := by have := HBY.out.intOf e'; rw [h1] at this; exact this
        obtain ⟨y2, q1, q2, h2⟩ : ∃ y2 q1 q2, intsN (11 - (i + 1)) b2 e2 = (y2, q1, q2) := ⟨_, _, _, rfl⟩
        have hst := HY.out
        rw [show 11 - i = (11 - (i + 1)) + 1 by omega, intsN_step h1, h2] at hst
        simp only [Prod.mk.injEq] at hst
        obtain ⟨hy, rfl, rfl⟩ := hst
        have C1 := refInt_c bs' e' HBY.out
        simp only [h1] at C1
        have HC1 := Aside0.mk C1
        have HYY := Aside0.mk hy
        have H22 := Aside0.mk h2
        have HB2 := Aside0.mk hB2
        have hlen : i < (xs ++ List.replicate (11 - i) (0 : Int)).length := by rw [List.length_append, List.length_replicate, HX.out]; omega
        clear C1 h1 hy h2 hB2
        go_wp2_with (first
   | (refine gate_st rfl ?_; refine hb_storeI rfl rfl rfl H rfl (k := 0) (i := 1 + i) rfl rfl (by kernel_rfl) (decide_eq_true (by rw [rcA_size]; omega)) ?_; intro W1 H1; simp only [List.set_cons_zero, List.set_cons_succ] at H1; replace H := H1; clear H1)
   | (go_at_call 22; refine (HC1.out _).mono ?_; rintro ev w2 ⟨rfl, B2⟩; replace H := H.call B2; clear B2)
   | ((with_reducible refine gate_load rfl ?_); first
      | refine hb_loadRow rfl rfl H rfl (k := 0) rfl Tryd.underlying56 rfl (by kernel_rfl) ?_
      | refine hb_loadRow rfl rfl H rfl (k := 1) rfl Tryd.underlying56 rfl (by kernel_rfl) ?_)
   | ((with_reducible refine gate_st rfl ?_); (first
      | refine hb_storeRow rfl rfl rfl H rfl (k := 0) rfl rfl (by kernel_rfl) rfl (by rfl) ?_
      | refine hb_storeRow rfl rfl rfl H rfl (k := 1) rfl rfl (by kernel_rfl) rfl (by rfl) ?_); intro W1 H1; clear H; simp only [List.setIfInBounds_toArray, List.set_cons_zero, List.set_cons_succ] at H1; have H := H1; clear H1))
        rw [rcA_set] at H
        go_roundw
        case rel =>
          refine ⟨i + 1, xs ++ [v], b2, y2, e2, hlt, by go_num, by simp [HX.out], HB2.out, H22.out, by rw [← HFF.out, ← HYY.out]; simp, ?_⟩
          have := set_rep xs (11 - (i + 1)) i v HX.out
          rw [show 11 - (i + 1) + 1 = 11 - i by omega] at this
          rw [← this]; exact H
        case measure => simp [RowKit.intOf]; omega
      · obtain rfl : i = 11 := by omega
        obtain ⟨rfl, rfl, rfl⟩ : ys = [] ∧ bs' = bE ∧ e' = eE := by have := HY.out; simp [intsN] at this; exact ⟨this.1.symm ▸ rfl, this.2.1, this.2.2⟩
        obtain rfl : xs = F := by have := HFF.out; simpa using this
        rw [Nat.sub_self, List.replicate_zero, List.append_nil] at H
        clear hlt hi HFF HY HBY HB1 H2 HC HK
        generalize kindR v0 = κ at H HR
        have hcl := cleanR_len κ xs HX.out
        obtain ⟨c0, C, hC⟩ : ∃ c0 C, cleanR κ xs = (c0, C) := ⟨_, _, rfl⟩
        rw [hC] at hcl
        have C27 := clean22_c κ xs HX.out
        simp only [hC] at C27
        have C25 := right22_c κ xs HX.out
        have hR := HR.out
        rw [hC] at hR
        obtain ⟨f0, f1, f2, f3, f4, f5, f6, f7, f8, f9, f10, rfl⟩ := list11 xs HX.out
        replace H : HB w [(gx, #[.int .i64 κ, .int .i64 f0, .int .i64 f1, .int .i64 f2, .int .i64 f3, .int .i64 f4, .int .i64 f5, .int .i64 f6, .int .i64 f7, .int .i64 f8, .int .i64 f9, .int .i64 f10], 32), (gc, cuA bs' e', 56), (gz, #[.int .i64 0, .int .i64 0, .int .i64 0, .int .i64 0, .int .i64 0, .int .i64 0, .int .i64 0, .int .i64 0, .int .i64 0, .int .i64 0, .int .i64 0, .int .i64 0], 32)] wr := H
        obtain ⟨g0, g1, g2, g3, g4, g5, g6, g7, g8, g9, g10, rfl⟩ := list11 C hcl
        obtain ⟨rr, hrr⟩ : ∃ rr, rightR κ [f0, f1, f2, f3, f4, f5, f6, f7, f8, f9, f10] = rr := ⟨_, rfl⟩
        obtain ⟨ee, hee⟩ : ∃ ee, endOf bs' e' = ee := ⟨_, rfl⟩
        obtain ⟨nb, hnb⟩ : ∃ nb, (c0 == κ && (g0 == f0 && (g1 == f1 && (g2 == f2 && (g3 == f3 && (g4 == f4 && (g5 == f5 && (g6 == f6 && (g7 == f7 && (g8 == f8 && (g9 == f9 && (g10 == f10)))))))))))) = nb := ⟨_, rfl⟩
        have hnb2 : (c0, [g0, g1, g2, g3, g4, g5, g6, g7, g8, g9, g10]) = (κ, [f0, f1, f2, f3, f4, f5, f6, f7, f8, f9, f10]) ↔ nb = true := by rw [← hnb]; simp
        rw [hrr, hee] at hR
        rw [hrr] at C25
        have CE := refEnd_c bs' e'
        rw [hee] at CE
        have HR3 : Aside0 (R = if ee = 0 ∧ rr = true ∧ nb = true then ((κ, [f0, f1, f2, f3, f4, f5, f6, f7, f8, f9, f10]), 0) else ((0, [0, 0, 0, 0, 0, 0, 0, 0, 0, 0, 0]), 11)) := by
          constructor; rw [hR]; simp only [hnb2]
        have C27' := Aside0.mk C27
        have C25' := Aside0.mk C25
        have CE' := Aside0.mk CE
        have hnx : (!(c0 == κ) || (!(g0 == f0) || (!(g1 == f1) || (!(g2 == f2) || (!(g3 == f3) || (!(g4 == f4) || (!(g5 == f5) || (!(g6 == f6) || (!(g7 == f7) || (!(g8 == f8) || (!(g9 == f9) || (!(g10 == f10))))))))))))) = (!nb) := by rw [← hnb]; simp only [Bool.not_and]
        clear hcl hC C27 C25 hR hrr hee hnb hnb2 CE HR HX
        have key : ∀ good : Bool, (good = true ↔ (ee = 0 ∧ rr = true ∧ nb = true)) → R = if good = true then ((κ, [f0, f1, f2, f3, f4, f5, f6, f7, f8, f9, f10]), 0) else ((0, [0, 0, 0, 0, 0, 0, 0, 0, 0, 0, 0]), 11) := by
          intro good hg; rw [HR3.out]; simp only [hg]
        have KEY := Aside0.mk key
        clear key HR3
        rcases (show (ee = 0 ∧ rr = true ∧ nb = true) ∨ (ee = 0 ∧ rr = true ∧ nb = false) ∨ (ee = 0 ∧ rr = false) ∨ ((ee == 0) = false ∧ (ee != 0) = true) by by_cases h : ee = 0 <;> cases rr <;> cases nb <;> simp [h]) with ⟨rfl, rfl, rfl⟩ | ⟨rfl, rfl, rfl⟩ | ⟨rfl, rfl⟩ | ⟨he1, he2⟩
        all_goals
          go_wp2_with (first
   | (refine gate_st rfl ?_; refine hb_storeI rfl rfl rfl H rfl (k := 0) (i := 1 + i) rfl rfl (by kernel_rfl) (decide_eq_true (by rw [rcA_size]; omega)) ?_; intro W1 H1; simp only [List.set_cons_zero, List.set_cons_succ] at H1; replace H := H1; clear H1)
   | (go_at_call 22; refine (HC1.out _).mono ?_; rintro ev w2 ⟨rfl, B2⟩; replace H := H.call B2; clear B2)
   | ((with_reducible refine gate_load rfl ?_); first
      | refine hb_loadRow rfl rfl H rfl (k := 0) rfl Tryd.underlying56 rfl (by kernel_rfl) ?_
      | refine hb_loadRow rfl rfl H rfl (k := 1) rfl Tryd.underlying56 rfl (by kernel_rfl) ?_)
   | ((with_reducible refine gate_st rfl ?_); (first
      | refine hb_storeRow rfl rfl rfl H rfl (k := 0) rfl rfl (by kernel_rfl) rfl (by rfl) ?_
      | refine hb_storeRow rfl rfl rfl H rfl (k := 1) rfl rfl (by kernel_rfl) rfl (by rfl) ?_); intro W1 H1; clear H; simp only [List.setIfInBounds_toArray, List.set_cons_zero, List.set_cons_succ] at H1; have H := H1; clear H1))
          ((first
            | refine lex_start (.t 0 (.e 1 (.t 2 (.t 3 (.t 4 (.e 5 (.t 6 (.t 7 (.t 8 (.t 9 (.t 11 (.e 10 (.t 12 (.t 13 .n)))))))))))))) (by kernel_rfl) (by decide +kernel) (H.drew.stat) (fun _ _ d _ _ h => by cases d <;> exact h) (fun _ => ?_)); replace H := H.drew)
          repeat' (first
           | (refine lex_skip rfl rfl rfl (by simp only [Act.put, List.setIfInBounds_toArray, List.set_cons_zero, List.set_cons_succ]; rfl) ?_)
           | (refine lex_skipE rfl rfl rfl (by simp only [Act.put, List.setIfInBounds_toArray, List.set_cons_zero, List.set_cons_succ]; rfl) H.stat ?_)
           | (refine lex_call rfl rfl rfl rfl Tryd.func39 (by kernel_rfl) rfl (by simp only [List.map_toArray, List.map_cons, List.map_nil]; rfl) ?_; refine (CE'.out _).mono ?_; rintro e w2 ⟨rfl, B2⟩; replace H := H.call B2; clear B2; refine ⟨_, rfl, H.stat, ?_⟩)
           | (refine lex_call rfl rfl rfl rfl Tryd.func25 (by kernel_rfl) rfl (by simp only [List.map_toArray, List.map_cons, List.map_nil]; rfl) ?_; refine (C25'.out _).mono ?_; rintro e w2 ⟨rfl, B2⟩; replace H := H.call B2; clear B2; refine ⟨_, rfl, H.stat, ?_⟩)
           | (refine lex_call rfl rfl rfl rfl Tryd.func27 (by kernel_rfl) rfl (by simp only [List.map_toArray, List.map_cons, List.map_nil]; rfl) ?_; refine (C27'.out _).mono ?_; rintro e w2 ⟨rfl, B2⟩; replace H := H.call B2; clear B2; refine ⟨.agg #[.int .i64 c0, .int .i64 g0, .int .i64 g1, .int .i64 g2, .int .i64 g3, .int .i64 g4, .int .i64 g5, .int .i64 g6, .int .i64 g7, .int .i64 g8, .int .i64 g9, .int .i64 g10], rfl, H.stat, ?_⟩)
           | (refine lexg_load rfl rfl ?_; refine lex_row rfl rfl rfl rfl rfl (k := 1) rfl Tryd.underlying56 rfl (by kernel_rfl) (by simp only [Act.put, List.setIfInBounds_toArray, List.set_cons_zero, List.set_cons_succ]; rfl) ?_)
           | (refine lexg_load rfl rfl ?_; refine lex_row rfl rfl rfl rfl rfl (k := 0) rfl Tryd.underlying32 rfl (by kernel_rfl) (by simp only [Act.put, List.setIfInBounds_toArray, List.set_cons_zero, List.set_cons_succ]; rfl) ?_)
           | (refine lexg_pure ?_; refine lex_pure rfl rfl rfl (by intro W1 h1; go_simp; with_reducible rfl) (by simp only [Act.put, List.setIfInBounds_toArray, List.set_cons_zero, List.set_cons_succ]; rfl) ?_)
           | refine lex_done ?_)
          all_goals
            go_wp2_with (first
   | ((with_reducible refine gate_load rfl ?_); first
      | refine hb_loadRow rfl rfl H rfl (k := 0) rfl Tryd.underlying32 rfl (by kernel_rfl) ?_
      | refine hb_loadRow rfl rfl H rfl (k := 2) rfl Tryd.underlying32 rfl (by kernel_rfl) ?_)
   | ((with_reducible refine gate_st rfl ?_); (first
      | refine hb_storeRow rfl rfl rfl H rfl (k := 0) rfl rfl (by kernel_rfl) rfl (by rfl) ?_
      | refine hb_storeRow rfl rfl rfl H rfl (k := 2) rfl rfl (by kernel_rfl) rfl (by rfl) ?_); intro W1 H1; clear H; simp only [List.setIfInBounds_toArray, List.set_cons_zero, List.set_cons_succ] at H1; have H := H1; clear H1))
            refine bodyPost_ret (results_list (rs := [.cell 2 32, .tmp 3]) rfl (by simp) (.cell _ _ _ _ _ rfl (H.get (k := 2) rfl) hu32 rfl (by kernel_rfl) (.tmp .nil))) rfl ⟨?_, H.below⟩
        · rw [KEY.out true (by simp)]; rfl
        · rw [KEY.out false (by simp)]; rfl
        · rw [KEY.out false (by simp)]; rfl
        · rw [beq_eq_false_iff_ne] at he1
          rw [KEY.out false (by simp [he1])]; rfl
end Go.Proofs.YtkkjjogbfjahgaaDoor.Sm
set_option linter.unusedVariables false
set_option linter.unusedSimpArgs false
namespace Go.Proofs.YtkkjjogbfjahgaaDoor.Sm
open Go Go.Proofs Go.RowKit Go.Proofs.CodBytes Go.Proofs.YtkkjjogbfjahgaaDoorW.PrintWords Go.Proofs.YtkkjjogbfjahgaaDoorW.PrintLast Go.Proofs.YtkkjjogbfjahgaaDoorW.PrintMore Go.Proofs.YtkkjjogbfjahgaaDoor.PSc Go.Proofs.YtkkjjogbfjahgaaDoor.CodSame Go.Proofs.YtkkjjogbfjahgaaDoor.Cur Go.Proofs.YtkkjjogbfjahgaaDoor.Sc
theorem cells18 {w : World} {g t : Nat} {x0 x1 x2 x3 x4 x5 x6 x7 x8 x9 x10 x11 x12 x13 x14 x15 x16 x17 : Value} (h : w.heap[g]? = some (.cells #[x0, x1, x2, x3, x4, x5, x6, x7, x8, x9, x10, x11, x12, x13, x14, x15, x16, x17] t (0, 0))) :
  w.cell? ⟨g, 0, none⟩ = some x0 ∧ w.cell? ⟨g, 1, none⟩ = some x1 ∧ w.cell? ⟨g, 2, none⟩ = some x2 ∧ w.cell? ⟨g, 3, none⟩ = some x3 ∧ w.cell? ⟨g, 4, none⟩ = some x4 ∧ w.cell? ⟨g, 5, none⟩ = some x5 ∧ w.cell? ⟨g, 6, none⟩ = some x6 ∧ w.cell? ⟨g, 7, none⟩ = some x7 ∧ w.cell? ⟨g, 8, none⟩ = some x8 ∧ w.cell? ⟨g, 9, none⟩ = some x9 ∧ w.cell? ⟨g, 10, none⟩ = some x10 ∧ w.cell? ⟨g, 11, none⟩ = some x11 ∧ w.cell? ⟨g, 12, none⟩ = some x12 ∧ w.cell? ⟨g, 13, none⟩ = some x13 ∧ w.cell? ⟨g, 14, none⟩ = some x14 ∧ w.cell? ⟨g, 15, none⟩ = some x15 ∧ w.cell? ⟨g, 16, none⟩ = some x16 ∧ w.cell? ⟨g, 17, none⟩ = some x17 :=
  ⟨blk_cell h 0, blk_cell h 1, blk_cell h 2, blk_cell h 3, blk_cell h 4, blk_cell h 5, blk_cell h 6, blk_cell h 7, blk_cell h 8, blk_cell h 9, blk_cell h 10, blk_cell h 11, blk_cell h 12, blk_cell h 13, blk_cell h 14, blk_cell h 15, blk_cell h 16, blk_cell h 17⟩
def rightRS (s : RS) : Bool := decide (0 ≤ s.kind) && (decide (s.kind ≤ 5) && ((decide (s.kind ≠ 0) || rightR s.mkd s.F) && (decide (s.kind ≠ 1) || decide (s.line.size ≤ 264))))
set_option maxRecDepth 100000 in
set_option maxHeartbeats 4000000 in
theorem right28_c (s : RS) (hF : s.F.length = 11) (hN : s.N.length = 4) (hl : s.line.size < 9223372036854775807) (w : World) : Calls Tryd.prog 11 #[.agg (rsA s)] w fun e w' => e = .returned (.bool (rightRS s)) ∧ Below w.heap.size w w' := by
  have hu35 := Tryd.underlying35
  have hu32 := Tryd.underlying32
  have H := HB.start w
  obtain ⟨k, mk, F, ln, N⟩ := s
  have C25 := right22_c mk F hF
  obtain ⟨r, hr⟩ : ∃ r, rightR mk F = r := ⟨_, rfl⟩
  rw [hr] at C25
  have HC := Aside0.mk C25
  obtain ⟨R, hR⟩ : ∃ R, R = rightRS ⟨k, mk, F, ln, N⟩ := ⟨_, rfl⟩
  have hR2 : R = (decide (0 ≤ k) && (decide (k ≤ 5) && ((decide (k ≠ 0) || r) && (decide (k ≠ 1) || decide (ln.size ≤ 264))))) := by rw [hR]; unfold rightRS; rw [hr]
  rw [← hR]
  have HR := Aside0.mk hR2
  clear hR hR2 hr C25
  dsimp only at hF hN hl
  obtain ⟨f0, f1, f2, f3, f4, f5, f6, f7, f8, f9, f10, rfl⟩ := list11 F hF
  obtain ⟨n0, n1, n2, n3, rfl⟩ := list4 N hN
  replace HC : Aside0 (∀ w, Calls Tryd.prog 25 #[.agg #[.int .i64 mk, .int .i64 f0, .int .i64 f1, .int .i64 f2, .int .i64 f3, .int .i64 f4, .int .i64 f5, .int .i64 f6, .int .i64 f7, .int .i64 f8, .int .i64 f9, .int .i64 f10]] w fun e w' => e = .returned (.bool r) ∧ Below w.heap.size w w') := ⟨HC.out⟩
  have hk : k = 0 ∨ k = 1 ∨ ((k == 0) = false ∧ (k == 1) = false ∧ (k != 0) = true ∧ (k != 1) = true) := by
    simp only [beq_eq_false_iff_ne, bne_iff_ne]; omega
  show Calls _ _ #[.agg #[_, _, _, _, _, _, _, _, _, _, _, _, _, _, _, _, _, _]] w _
  rcases hk with rfl | rfl | ⟨z0, z1, z2, z3⟩
  all_goals
    go_enter Tryd.func11, Tryd.ntmps11
    go_wp2_with (first
     | ((with_reducible refine gate_dst (N := 1) rfl ?_); refine hb_box rfl rfl H rfl ?_; intro gb W1 hgb H1; clear H; have H := H1; clear H1; have Q := cells18 (H.get (k := 0) rfl); obtain ⟨q0, q1, q2, q3, q4, q5, q6, q7, q8, q9, q10, q11, q12, q13, q14, q15, q16, q17⟩ := Q)
     | ((with_reducible refine (HC.out _).mono ?_); rintro e w2 ⟨rfl, B2⟩; replace H := H.call B2; clear B2 q0 q1 q2 q3 q4 q5 q6 q7 q8 q9 q10 q11 q12 q13 q14 q15 q16 q17; have Q := cells18 (H.get (k := 0) rfl); obtain ⟨q0, q1, q2, q3, q4, q5, q6, q7, q8, q9, q10, q11, q12, q13, q14, q15, q16, q17⟩ := Q))
  all_goals (go_ret; refine ⟨?_, H.below⟩; rw [HR.out]; (try simp only [beq_eq_false_iff_ne] at z0 z1); simp [*] <;> omega)
end Go.Proofs.YtkkjjogbfjahgaaDoor.Sm
set_option linter.unusedVariables false
set_option linter.unusedSimpArgs false
namespace Go.Proofs.YtkkjjogbfjahgaaDoor.Sm
open Go Go.Proofs Go.RowKit Go.Proofs.CodBytes Go.Proofs.YtkkjjogbfjahgaaDoorW.PrintWords Go.Proofs.YtkkjjogbfjahgaaDoorW.PrintLast Go.Proofs.YtkkjjogbfjahgaaDoorW.PrintMore Go.Proofs.YtkkjjogbfjahgaaDoor.PSc Go.Proofs.YtkkjjogbfjahgaaDoor.CodSame Go.Proofs.YtkkjjogbfjahgaaDoor.Cur Go.Proofs.YtkkjjogbfjahgaaDoor.Sc
theorem small_same (bs : List Int) (e m : Int) (h : By bs) : berthingref02_Cursor_Small.f 30 (strOfNums bs) e m = some (strOfNums (smallOf m bs e).2.1, (smallOf m bs e).2.2, (smallOf m bs e).1) := by
  have hi := (int_same 30 (by omega) bs h.1 h.2 e).1
  have hb := intOf_bad0 bs e
  unfold berthingref02_Cursor_Small.f smallOf
  rw [hi]
  simp only [Option.bind_some]
  generalize Cur.intOf bs e = r at *
  obtain ⟨v, b1, e1⟩ := r
  dsimp only at *
  by_cases h1 : e1 = 0
  · rw [if_pos h1]
    by_cases h2 : v < 0
    · rw [if_pos h2, if_pos ⟨h1, .inl h2⟩]; rfl
    · rw [if_neg h2]
      by_cases h3 : m < v
      · rw [if_pos h3, if_pos ⟨h1, .inr h3⟩]; rfl
      · rw [if_neg (by omega), if_neg (by omega)]
  · rw [if_neg h1, if_neg (fun hh => h1 hh.1), hb h1]
theorem By.small {bs : List Int} (h : By bs) (m e : Int) : By (smallOf m bs e).2.1 :=
  ⟨fun x hx => h.1 x (smallOf_sub m bs e x hx), Nat.lt_of_le_of_lt (smallOf_le m bs e) h.2⟩
theorem str_take (bs : List Int) (n : Nat) (hn : n ≤ bs.length) : (strOfNums bs).extract 0 n = strOfNums (bs.take n) := by
  apply ByteArray.ext
  rw [ByteArray.data_extract]
  simp only [strOfNums, List.map_take, List.extract_toArray, List.extract_eq_take_drop]
  simp
theorem text_same (bs : List Int) (e : Int) (h : By bs) : berthingref02_Cursor_Text.f 30 (strOfNums bs) e = some (strOfNums (textOf bs e).2.1, (textOf bs e).2.2, strOfNums (textOf bs e).1) := by
  have hs := small_same bs e 65536 h
  have hin := smallOf_in 65536 (by omega) bs e
  unfold berthingref02_Cursor_Text.f textOf
  rw [hs]
  simp only [Option.bind_some]
  generalize smallOf 65536 bs e = r at *
  obtain ⟨v, b1, e1⟩ := r
  dsimp only at *
  by_cases h1 : e1 = 0
  · subst h1
    simp only [ne_eq, not_true_eq_false, if_false, if_true, str_size]
    by_cases h2 : (b1.length : Int) < v
    · rw [if_pos h2, if_pos h2]; rfl
    · rw [if_neg (show ¬ v > (b1.length : Int) by omega), if_pos hin.1, if_pos (by omega), if_neg h2, ← str_size b1, str_drop, str_take _ _ (by omega)]
  · simp only [ne_eq, h1, not_false_eq_true, if_true, if_false]; rfl
theorem By.text {bs : List Int} (h : By bs) (e : Int) : By (textOf bs e).2.1 :=
  ⟨fun x hx => h.1 x (textOf_sub bs e x hx), Nat.lt_of_le_of_lt (textOf_le bs e) h.2⟩
theorem By.got {bs : List Int} (h : By bs) (e : Int) : By (textOf bs e).1 :=
  ⟨fun x hx => h.1 x (textOf_in bs e x hx), by have := textOf_len bs e; omega⟩
theorem refSmall_c (bs : List Int) (e m : Int) (h : By bs) (w : World) : Calls Tryd.prog 19 #[.agg (cuA bs e), .int .i64 m] w fun ev w' => ev = .returned (.tuple #[.agg (cuA (smallOf m bs e).2.1 (smallOf m bs e).2.2), .int .i64 (smallOf m bs e).1]) ∧ Below w.heap.size w w' :=
  berthingref02_Cursor_Small.calls 30 _ _ _ _ _ _ _ (small_same bs e m h)
theorem refText_c (bs : List Int) (e : Int) (h : By bs) (w : World) : Calls Tryd.prog 20 #[.agg (cuA bs e)] w fun ev w' => ev = .returned (.tuple #[.agg (cuA (textOf bs e).2.1 (textOf bs e).2.2), .string (strOfNums (textOf bs e).1)]) ∧ Below w.heap.size w w' :=
  berthingref02_Cursor_Text.calls 30 _ _ _ _ _ _ (text_same bs e h)
end Go.Proofs.YtkkjjogbfjahgaaDoor.Sm
