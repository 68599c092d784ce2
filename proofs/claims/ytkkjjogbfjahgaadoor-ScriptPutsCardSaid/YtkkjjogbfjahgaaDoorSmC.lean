/- The reference's Right and Clean of a command: contracts. Conditions: eleven fields. -/
import Derived.Test.YtkkjjogbfjahgaaDoorHB
import Derived.Test.YtkkjjogbfjahgaaDoorSmB
import Derived.Test.YtkkjjogbfjahgaaDoorPScx24
import Derived.Test.YtkkjjogbfjahgaaDoorPScx25
set_option linter.unusedVariables false
set_option linter.unusedSimpArgs false
namespace Go.Proofs.YtkkjjogbfjahgaaDoor.Sm
open Go Go.Proofs Go.RowKit Go.Proofs.YtkkjjogbfjahgaaDoorW.PrintWords Go.Proofs.YtkkjjogbfjahgaaDoorW.PrintLast Go.Proofs.YtkkjjogbfjahgaaDoorW.PrintMore Go.Proofs.YtkkjjogbfjahgaaDoor.PSc
/-- the fields that count -/
def fieldsB (k : Int) : ByteArray := ((berthingref22_Fields.f 10 k).getD ⟨#[]⟩)
def FOk (o : Option ByteArray) : Prop := ∃ b, o = some b ∧ (b.size = 0 ∨ b.size = 11)
theorem FOk.ite {c : Prop} [Decidable c] {a b : Option ByteArray} (h1 : FOk a) (h2 : FOk b) : FOk (if c then a else b) := by split <;> assumption
theorem fields_ex (k : Int) : FOk (berthingref22_Fields.f 10 k) := by
  have hj : ∀ b, FOk (berthingref22_Fields.j0 10 k b) := fun b => by
    unfold berthingref22_Fields.j0
    repeat' (refine FOk.ite ?_ ?_)
    all_goals (refine ⟨_, rfl, ?_⟩; first | exact .inl rfl | exact .inr rfl)
  unfold berthingref22_Fields.f
  repeat' (refine FOk.ite ?_ ?_)
  all_goals first | exact hj _ | (refine ⟨_, rfl, ?_⟩; first | exact .inl rfl | exact .inr rfl)
theorem fields_some (k : Int) : berthingref22_Fields.f 10 k = some (fieldsB k) := by
  obtain ⟨b, h, _⟩ := fields_ex k
  unfold fieldsB; rw [h]; rfl
theorem fields_size (k : Int) : (fieldsB k).size = 0 ∨ (fieldsB k).size = 11 := by
  obtain ⟨b, h, hb⟩ := fields_ex k
  unfold fieldsB; rw [h]; exact hb
def mayB (k c v : Int) : Bool := (berthingref22_may.f k c v).getD false
def MOk (o : Option Bool) : Prop := ∃ b, o = some b
theorem MOk.ite {c : Prop} [Decidable c] {a b : Option Bool} (h1 : MOk a) (h2 : MOk b) : MOk (if c then a else b) := by split <;> assumption
theorem may_ex (k c v : Int) : MOk (berthingref22_may.f k c v) := by
  unfold berthingref22_may.f
  repeat' (refine MOk.ite ?_ ?_)
  all_goals exact ⟨_, rfl⟩
theorem may_some (k c v : Int) : berthingref22_may.f k c v = some (mayB k c v) := by
  obtain ⟨b, h⟩ := may_ex k c v
  unfold mayB; rw [h]; rfl
theorem rcA_at (k : Int) (F : List Int) (i : Nat) (h : i < F.length) : (rcA k F).toList[1 + i]? = some (.int .i64 (F.getD i 0)) := by
  unfold rcA
  rw [Nat.add_comm]
  simp [List.getElem?_eq_getElem h, List.getD_eq_getElem?_getD]
/-- may all fields from i on be? -/
def mayAll (k : Int) (f : ByteArray) (F : List Int) : Nat → Nat → Bool
  | 0, _ => true
  | n + 1, i => mayB k (bt f i) (F.getD i 0) && mayAll k f F n (i + 1)
theorem isE (b : ByteArray) : b.toList.isEmpty = decide (b.size = 0) := by
  rw [ByteArray.toList_eq]
  have : b.size = b.data.toList.length := rfl
  rw [this]; cases b.data.toList <;> simp
def rightR (k : Int) (F : List Int) : Bool := mayAll k (fieldsB k) F (fieldsB k).size 0 && decide ((fieldsB k).size ≠ 0)
set_option maxRecDepth 100000 in
set_option maxHeartbeats 4000000 in
theorem right22_c (k : Int) (F : List Int) (hF : F.length = 11) (w : World) : Calls Tryd.prog 25 #[.agg (rcA k F)] w fun e w' => e = .returned (.bool (rightR k F)) ∧ Below w.heap.size w w' := by
  have hu32 := Tryd.underlying32
  have hu30 := Tryd.underlying30
  have H := HB.start w
  have hs := fields_size k
  have hsz : (fieldsB k).size ≤ 11 := by omega
  have HE : Aside0 (rightR k F = (mayAll k (fieldsB k) F (fieldsB k).size 0 && decide ((fieldsB k).size ≠ 0))) := ⟨rfl⟩
  generalize rightR k F = R at HE ⊢
  have HFL := Aside0.mk hF
  clear hs hF
  go_enter Tryd.func25, Tryd.ntmps25
  go_wp2_with (first
   | (go_at_call 47; refine (berthingref22_Fields.calls 10 _ _ _ (fields_some _)).mono ?_; rintro e w2 ⟨rfl, B2⟩; replace H := H.drawn B2; clear B2)
   | ((with_reducible refine gate_box rfl ?_); refine hb_box rfl rfl H rfl ?_; intro gb W1 hgb H1; clear H; have H := H1; clear H1)
   | ((with_reducible refine gate_load rfl ?_); first
      | refine hb_load rfl rfl H rfl (k := 0) rfl Tryd.underlying3 rfl rfl ?_))
  go_loopw [4] (fun v4 wr => ∃ i : Nat, i ≤ (fieldsB k).size ∧ v4 = .int .i64 i ∧ (mayAll k (fieldsB k) F (fieldsB k).size 0 = mayAll k (fieldsB k) F ((fieldsB k).size - i) i) ∧ HB w [(gb, rcA k F, 32)] wr) (fun v4 _ => (fieldsB k).size - (intOf v4).toNat)
  case atStart => exact ⟨0, Nat.zero_le _, rfl, rfl, H⟩
  case round =>
    clear H
    obtain ⟨i, hi, rfl, hm, H⟩ := hrel
    have HM := Aside0.mk hm
    clear hm
    by_cases hlt : i < (fieldsB k).size
    · have h0 : (0 : Int) ≤ i := by omega
      have hl : (i : Int) < (fieldsB k).size := by omega
      have hl11 : i < F.length := by rw [HFL.out]; omega
      have hi11 : (i : Int) < 11 := by omega
      have hstep : mayAll k (fieldsB k) F ((fieldsB k).size - i) i = (mayB k (bt (fieldsB k) i) (F.getD i 0) && mayAll k (fieldsB k) F ((fieldsB k).size - (i + 1)) (i + 1)) := by
        rw [show (fieldsB k).size - i = ((fieldsB k).size - (i + 1)) + 1 by omega]; rfl
      have hbt : bt (fieldsB k) i = ((fieldsB k)[i].toNat : Int) := by unfold bt; simp [hlt]
      rw [hbt] at hstep
      obtain ⟨m, hmb⟩ : ∃ m, mayB k ((fieldsB k)[i].toNat : Int) (F.getD i 0) = m := ⟨_, rfl⟩
      rw [hmb] at hstep
      have HST := Aside0.mk (HM.out.trans hstep)
      have HMB := Aside0.mk hmb
      clear hstep hbt hmb
      go_wp2_with (first
   | (go_at_call 47; refine (berthingref22_Fields.calls 10 _ _ _ (fields_some _)).mono ?_; rintro e w2 ⟨rfl, B2⟩; replace H := H.drawn B2; clear B2)
   | ((with_reducible refine gate_box rfl ?_); refine hb_box rfl rfl H rfl ?_; intro gb W1 hgb H1; clear H; have H := H1; clear H1)
   | ((with_reducible refine gate_load rfl ?_); first
      | refine hb_load rfl rfl H rfl (k := 0) rfl Tryd.underlying3 rfl rfl ?_))
      ((first
        | refine lex_start (.t 0 (.t 1 (.t 2 (.t 3 (.t 4 (.t 5 (.t 6 (.t 7 (.t 8 (.e 9 (.t 10 .n))))))))))) (by kernel_rfl) (by decide +kernel) (H.drew.sub1 0 rfl) (fun _ _ d _ _ h => by cases d <;> exact h) (fun _ => ?_)); replace H := H.drew)
      repeat' (first
       | (refine lexg_load rfl rfl ?_; refine lex_load rfl rfl rfl rfl rfl (k := 0) rfl Tryd.underlying2 rfl (rcA_at k F i (by omega)) (by simp only [Act.put, List.setIfInBounds_toArray, List.set_cons_zero, List.set_cons_succ]; rfl) ?_)
       | (refine lex_call rfl rfl rfl rfl Tryd.func48 (by kernel_rfl) rfl (by simp only [List.map_toArray, List.map_cons, List.map_nil]; rfl) ?_; refine (berthingref22_may.calls _ _ _ _ _ (may_some _ _ _)).mono ?_; rintro e w2 ⟨rfl, B2⟩; replace H := H.drawn B2; clear B2; refine ⟨.bool m, by rw [HMB.out], (H.sub1 0 rfl), ?_⟩)
       | (refine lexg_load rfl rfl ?_; first
          | (refine lex_load rfl rfl rfl rfl rfl (k := 0) rfl Tryd.underlying3 rfl rfl (by simp only [Act.put, List.setIfInBounds_toArray, List.set_cons_zero, List.set_cons_succ]; rfl) ?_))
       | (refine lexg_pure ?_; refine lex_pure rfl rfl rfl (by intro W1 h1; go_simp; with_reducible rfl) (by simp only [Act.put, List.setIfInBounds_toArray, List.set_cons_zero, List.set_cons_succ]; rfl) ?_)
       | refine lex_done ?_)
      cases m with
      | false =>
        go_wp2
        go_ret
        exact ⟨by rw [HE.out, HST.out]; rfl, H.below⟩
      | true =>
        go_wp2
        go_roundw
        case rel => exact ⟨i + 1, hlt, by go_num, by rw [HST.out]; rfl, H⟩
        case measure => simp [intOf]; omega
    · obtain rfl : i = (fieldsB k).size := by omega
      go_wp2
      go_ret
      exact ⟨by rw [HE.out, HM.out]; simp [mayAll, isE], H.below⟩
end Go.Proofs.YtkkjjogbfjahgaaDoor.Sm
set_option linter.unusedVariables false
set_option linter.unusedSimpArgs false
namespace Go.Proofs.YtkkjjogbfjahgaaDoor.Sm
open Go Go.Proofs Go.RowKit Go.Proofs.YtkkjjogbfjahgaaDoorW.PrintWords Go.Proofs.YtkkjjogbfjahgaaDoorW.PrintLast Go.Proofs.YtkkjjogbfjahgaaDoorW.PrintMore Go.Proofs.YtkkjjogbfjahgaaDoor.PSc
/-- the fields from i on, those that do not count 0 -/
def maskF (f : ByteArray) : Nat → Nat → List Int → List Int
  | 0, _, F => F
  | n + 1, i, F => maskF f n (i + 1) (if bt f i = 45 then F.set i 0 else F)
def cleanR (k : Int) (F : List Int) : Int × List Int := if (fieldsB k).size = 0 then (0, [0, 0, 0, 0, 0, 0, 0, 0, 0, 0, 0]) else (k, maskF (fieldsB k) 11 0 F)
theorem rcA_set (k : Int) (F : List Int) (i : Nat) (v : Int) : (rcA k F).setIfInBounds (1 + i) (.int .i64 v) = rcA k (F.set i v) := by
  unfold rcA
  apply Array.ext'
  rw [Array.toList_setIfInBounds, Nat.add_comm]
  simp [List.map_set]
theorem rcA_size (k : Int) (F : List Int) : (rcA k F).size = F.length + 1 := by simp [rcA]
theorem rcA_one (k : Int) (F : List Int) : (rcA k F).toList.all (·.oneCell') = true := by
  unfold rcA
  simp [Value.oneCell']
set_option maxRecDepth 100000 in
set_option maxHeartbeats 4000000 in
theorem clean22_c (k : Int) (F : List Int) (hF : F.length = 11) (w : World) : Calls Tryd.prog 27 #[.agg (rcA k F)] w fun e w' => e = .returned (.agg (rcA (cleanR k F).1 (cleanR k F).2)) ∧ Below w.heap.size w w' := by
  have hu32 := Tryd.underlying32
  have hu30 := Tryd.underlying30
  have H := HB.start w
  by_cases hz : (fieldsB k).size = 0
  · have hE : cleanR k F = (0, [0, 0, 0, 0, 0, 0, 0, 0, 0, 0, 0]) := by unfold cleanR; rw [if_pos hz]
    rw [hE]
    have h1 : (fieldsB k).toList.isEmpty = true := by rw [isE]; simp [hz]
    have h2 : (fieldsB k).toList = [] := by simpa using h1
    have HZ := Aside0.mk hz
    clear hE hz
    go_enter Tryd.func27, Tryd.ntmps27
    go_wp2_with (first
   | (refine gate_st rfl ?_; refine hb_storeI rfl rfl rfl H rfl (k := 1) (i := 1 + i) rfl rfl (by kernel_rfl) (decide_eq_true (by rw [rcA_size]; omega)) ?_; intro W1 H1; simp only [List.set_cons_zero, List.set_cons_succ] at H1; replace H := H1; clear H1)
   | (go_at_call 47; refine (berthingref22_Fields.calls 10 _ _ _ (fields_some _)).mono ?_; rintro e w2 ⟨rfl, B2⟩; replace H := H.drawn B2; clear B2)
   | ((with_reducible refine gate_box rfl ?_); refine hb_box rfl rfl H rfl ?_; intro gb W1 hgb H1; clear H; have H := H1; clear H1)
   | ((with_reducible refine gate_dst (N := 2) rfl ?_); refine hb_alloc rfl rfl H zero32 ?_; intro ga W1 hga H1; clear H; have H := H1; clear H1)
   | ((with_reducible refine gate_load rfl ?_); first
      | refine hb_load rfl rfl H rfl (k := 0) rfl Tryd.underlying3 rfl rfl ?_
      | refine hb_load rfl rfl H rfl (k := 1) rfl Tryd.underlying3 rfl rfl ?_)
   | ((with_reducible refine gate_st rfl ?_); (first
      | refine hb_storeRow rfl rfl rfl H rfl (k := 0) rfl rfl (by kernel_rfl) rfl (by rfl) ?_
      | refine hb_storeRow rfl rfl rfl H rfl (k := 1) rfl rfl (by kernel_rfl) rfl (by rfl) ?_); intro W1 H1; clear H; simp only [List.setIfInBounds_toArray, List.set_cons_zero, List.set_cons_succ] at H1; have H := H1; clear H1))
    exact bodyPost_ret (results_single rfl (.cell _ _ _ _ _ rfl (H.get (k := 0) rfl) hu32 rfl (by kernel_rfl) .nil)) rfl ⟨rfl, H.below⟩
  · have hs : (fieldsB k).size = 11 := by have := fields_size k; omega
    have h1 : (fieldsB k).toList.isEmpty = false := by rw [isE]; simp [hz]
    have h2 : ¬ (fieldsB k).toList = [] := by simpa using h1
    obtain ⟨R, hR⟩ : ∃ R, R = cleanR k F := ⟨_, rfl⟩
    rw [← hR]
    have hR2 : R = (k, maskF (fieldsB k) 11 0 F) := by rw [hR]; unfold cleanR; rw [if_neg hz]
    have HE := Aside0.mk hR2
    have HS := Aside0.mk hs
    have HFL := Aside0.mk hF
    have hsl : 11 ≤ (fieldsB k).size := by omega
    clear hR hR2 hz hs hF
    go_enter Tryd.func27, Tryd.ntmps27
    go_wp2_with (first
   | (refine gate_st rfl ?_; refine hb_storeI rfl rfl rfl H rfl (k := 1) (i := 1 + i) rfl rfl (by kernel_rfl) (decide_eq_true (by rw [rcA_size]; omega)) ?_; intro W1 H1; simp only [List.set_cons_zero, List.set_cons_succ] at H1; replace H := H1; clear H1)
   | (go_at_call 47; refine (berthingref22_Fields.calls 10 _ _ _ (fields_some _)).mono ?_; rintro e w2 ⟨rfl, B2⟩; replace H := H.drawn B2; clear B2)
   | ((with_reducible refine gate_box rfl ?_); refine hb_box rfl rfl H rfl ?_; intro gb W1 hgb H1; clear H; have H := H1; clear H1)
   | ((with_reducible refine gate_dst (N := 2) rfl ?_); refine hb_alloc rfl rfl H zero32 ?_; intro ga W1 hga H1; clear H; have H := H1; clear H1)
   | ((with_reducible refine gate_load rfl ?_); first
      | refine hb_load rfl rfl H rfl (k := 0) rfl Tryd.underlying3 rfl rfl ?_
      | refine hb_load rfl rfl H rfl (k := 1) rfl Tryd.underlying3 rfl rfl ?_)
   | ((with_reducible refine gate_st rfl ?_); (first
      | refine hb_storeRow rfl rfl rfl H rfl (k := 0) rfl rfl (by kernel_rfl) rfl (by rfl) ?_
      | refine hb_storeRow rfl rfl rfl H rfl (k := 1) rfl rfl (by kernel_rfl) rfl (by rfl) ?_); intro W1 H1; clear H; simp only [List.setIfInBounds_toArray, List.set_cons_zero, List.set_cons_succ] at H1; have H := H1; clear H1))
    go_loopw [4] (fun v4 wr => ∃ (i : Nat) (F' : List Int), i ≤ 11 ∧ v4 = .int .i64 i ∧ F'.length = 11 ∧ R = (k, maskF (fieldsB k) (11 - i) i F') ∧ HB w [(ga, #[.int .i64 0, .int .i64 0, .int .i64 0, .int .i64 0, .int .i64 0, .int .i64 0, .int .i64 0, .int .i64 0, .int .i64 0, .int .i64 0, .int .i64 0, .int .i64 0], 32), (gb, rcA k F', 32)] wr) (fun v4 _ => 11 - (intOf v4).toNat)
    case atStart => exact ⟨0, F, by omega, rfl, HFL.out, HE.out, H⟩
    case round =>
      clear H HFL
      obtain ⟨i, F', hi, rfl, hF', hR, H⟩ := hrel
      have HFL := Aside0.mk hF'
      have HR := Aside0.mk hR
      have hl := hF'
      clear hF' hR
      by_cases hlt : i < 11
      · have h0 : (0 : Int) ≤ i := by omega
        have hl1 : (i : Int) < (fieldsB k).size := by omega
        have hl2 : (i : Int) < 11 := by omega
        have hl3 : i < (fieldsB k).size := by omega
        have hbt : bt (fieldsB k) i = ((fieldsB k)[i].toNat : Int) := by unfold bt; simp [hl3]
        have hst : maskF (fieldsB k) (11 - i) i F' = maskF (fieldsB k) (11 - (i + 1)) (i + 1) (if ((fieldsB k)[i].toNat : Int) = 45 then F'.set i 0 else F') := by
          rw [show 11 - i = (11 - (i + 1)) + 1 by omega, maskF, hbt]
        have HST := Aside0.mk (HR.out.trans (congrArg (fun x => (k, x)) hst))
        clear hbt hst
        by_cases h45 : ((fieldsB k)[i].toNat : Int) = 45
        · have hb : (((fieldsB k)[i].toNat : Int) == 45) = true := by simp [h45]
          have H45 := Aside0.mk h45
          clear h45
          go_wp2_with (first
   | (refine gate_st rfl ?_; refine hb_storeI rfl rfl rfl H rfl (k := 1) (i := 1 + i) rfl rfl (by kernel_rfl) (decide_eq_true (by rw [rcA_size]; omega)) ?_; intro W1 H1; simp only [List.set_cons_zero, List.set_cons_succ] at H1; replace H := H1; clear H1)
   | (go_at_call 47; refine (berthingref22_Fields.calls 10 _ _ _ (fields_some _)).mono ?_; rintro e w2 ⟨rfl, B2⟩; replace H := H.drawn B2; clear B2)
   | ((with_reducible refine gate_box rfl ?_); refine hb_box rfl rfl H rfl ?_; intro gb W1 hgb H1; clear H; have H := H1; clear H1)
   | ((with_reducible refine gate_dst (N := 2) rfl ?_); refine hb_alloc rfl rfl H zero32 ?_; intro ga W1 hga H1; clear H; have H := H1; clear H1)
   | ((with_reducible refine gate_load rfl ?_); first
      | refine hb_load rfl rfl H rfl (k := 0) rfl Tryd.underlying3 rfl rfl ?_
      | refine hb_load rfl rfl H rfl (k := 1) rfl Tryd.underlying3 rfl rfl ?_)
   | ((with_reducible refine gate_st rfl ?_); (first
      | refine hb_storeRow rfl rfl rfl H rfl (k := 0) rfl rfl (by kernel_rfl) rfl (by rfl) ?_
      | refine hb_storeRow rfl rfl rfl H rfl (k := 1) rfl rfl (by kernel_rfl) rfl (by rfl) ?_); intro W1 H1; clear H; simp only [List.setIfInBounds_toArray, List.set_cons_zero, List.set_cons_succ] at H1; have H := H1; clear H1))
          rw [rcA_set] at H
          go_roundw
          case rel => exact ⟨i + 1, F'.set i 0, hlt, by go_num, by rw [List.length_set]; exact HFL.out, by rw [HST.out, if_pos H45.out], H⟩
          case measure => simp [intOf]; omega
        · have hb : (((fieldsB k)[i].toNat : Int) == 45) = false := by simp [h45]
          have H45 := Aside0.mk h45
          clear h45
          go_wp2_with (first
   | (refine gate_st rfl ?_; refine hb_storeI rfl rfl rfl H rfl (k := 1) (i := 1 + i) rfl rfl (by kernel_rfl) (decide_eq_true (by rw [rcA_size]; omega)) ?_; intro W1 H1; simp only [List.set_cons_zero, List.set_cons_succ] at H1; replace H := H1; clear H1)
   | (go_at_call 47; refine (berthingref22_Fields.calls 10 _ _ _ (fields_some _)).mono ?_; rintro e w2 ⟨rfl, B2⟩; replace H := H.drawn B2; clear B2)
   | ((with_reducible refine gate_box rfl ?_); refine hb_box rfl rfl H rfl ?_; intro gb W1 hgb H1; clear H; have H := H1; clear H1)
   | ((with_reducible refine gate_dst (N := 2) rfl ?_); refine hb_alloc rfl rfl H zero32 ?_; intro ga W1 hga H1; clear H; have H := H1; clear H1)
   | ((with_reducible refine gate_load rfl ?_); first
      | refine hb_load rfl rfl H rfl (k := 0) rfl Tryd.underlying3 rfl rfl ?_
      | refine hb_load rfl rfl H rfl (k := 1) rfl Tryd.underlying3 rfl rfl ?_)
   | ((with_reducible refine gate_st rfl ?_); (first
      | refine hb_storeRow rfl rfl rfl H rfl (k := 0) rfl rfl (by kernel_rfl) rfl (by rfl) ?_
      | refine hb_storeRow rfl rfl rfl H rfl (k := 1) rfl rfl (by kernel_rfl) rfl (by rfl) ?_); intro W1 H1; clear H; simp only [List.setIfInBounds_toArray, List.set_cons_zero, List.set_cons_succ] at H1; have H := H1; clear H1))
          go_roundw
          case rel => exact ⟨i + 1, F', hlt, by go_num, HFL.out, by rw [HST.out, if_neg H45.out], H⟩
          case measure => simp [intOf]; omega
      · obtain rfl : i = 11 := by omega
        have hR := HR.out
        have HR2 : Aside0 (R = (k, F')) := ⟨hR⟩
        clear hR HR hl hlt hi
        go_wp2_with (first
       | (refine gate_load rfl ?_; refine hb_loadRow rfl rfl H rfl (k := 1) rfl Tryd.underlying32 rfl (by rw [rcA_size, HFL.out]; kernel_rfl) ?_)
       | (refine gate_st rfl ?_; refine hb_storeRow rfl rfl rfl H rfl (k := 0) rfl rfl (by rw [rcA_size, HFL.out]; kernel_rfl) (by rw [rcA_size, HFL.out]; rfl) (rcA_one _ _) ?_; intro W1 H1; simp only [List.set_cons_zero, List.set_cons_succ] at H1; replace H := H1; clear H1))
        exact bodyPost_ret (results_single rfl (.cell _ _ _ _ _ rfl (H.get (k := 0) rfl) hu32 rfl (by rw [rcA_size, HFL.out]; kernel_rfl) .nil)) rfl ⟨by rw [HR2.out], H.below⟩
end Go.Proofs.YtkkjjogbfjahgaaDoor.Sm
