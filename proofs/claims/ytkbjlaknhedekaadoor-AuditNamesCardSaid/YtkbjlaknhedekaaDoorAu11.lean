/- The law's own walk. Conditions: those that each theorem states. -/
import Derived.Test.YtkbjlaknhedekaaDoorAu9
import Derived.Test.YtkbjlaknhedekaaDoorAu10
set_option linter.unusedVariables false
set_option linter.unusedSimpArgs false
/- The law's own walk. -/
namespace Go.Proofs.YtkbjlaknhedekaaDoor.Sm
open Go Go.Proofs Go.RowKit Go.Proofs.BitsPlain Go.Proofs.YtkbjlaknhedekaaDoorW.PrintWords Go.Proofs.YtkbjlaknhedekaaDoorW.PrintLast Go.Proofs.YtkbjlaknhedekaaDoorW.PrintMore Go.Proofs.YtkbjlaknhedekaaDoor.PAuditNames
theorem cnt_le (p : Nat → Bool) : ∀ i, cntR p i ≤ i
  | 0 => Nat.le_refl _
  | i + 1 => by have := cnt_le p i; unfold cntR; split <;> omega
set_option maxRecDepth 100000 in
set_option maxHeartbeats 4000000 in
theorem AuditNames_walk (a b now part : Int) (A : Option Addr) (c : Nat) (l : List S33) (AJ : Option Addr) (nJ cJ : Nat) (r0 r1 r2 r3 : Int) (rolls : Bool) (ret : Int) (w : World) (hC : Kd.C k33 w A l.length l) (hc : l.length ≤ c) (hT : Tab w) :
    Calls Tryd.prog 3 #[.int .i64 a, .int .i64 b, .agg #[.int .i64 now, .int .i64 part, .slice A l.length c, .slice AJ nJ cJ, .int .i64 r0, .int .i64 r1, .int .u64 r2, .int .u64 r3, .bool rolls, .int .i64 ret]] w fun e w' => e = .returned (.bool true) ∧ Below w.heap.size w w' := by
  have hu30 := Tryd.underlying30
  have hu23 := Tryd.underlying23
  have hu33 := Tryd.underlying33
  have H := HB.start w
  have HC := Aside0.mk hC
  have HCC := Aside0.mk hc
  have HT := Aside0.mk hT
  clear hC hc hT
  by_cases hbig : (100 : Int) < l.length
  · go_enter Tryd.func3, Tryd.ntmps3
    go_wp2_with (first
   | ((with_reducible refine gate_dst (N := 5) rfl ?_); refine hb_box rfl rfl H rfl ?_; intro gV W1 hgV H1; clear H; have H := H1; clear H1)
   | ((with_reducible refine (text_c _ _).mono ?_); rintro e w2 ⟨rfl, B2⟩; replace H := H.call B2; clear B2)
   | ((with_reducible refine gate_load rfl ?_); first
      | refine hb_load rfl rfl H rfl (k := 0) rfl Tryd.underlying23 rfl rfl ?_)
   | ((with_reducible refine gate_st rfl ?_); first
      | (refine hb_storeL rfl rfl rfl H rfl (k := 0) rfl rfl (by kernel_rfl) rfl ?_; intro W1 H1; clear H; simp only [List.setIfInBounds_toArray, List.set_cons_zero, List.set_cons_succ] at H1; have H := H1; clear H1)
      | (refine hb_storeB rfl rfl rfl H rfl (k := 0) rfl rfl (by kernel_rfl) rfl ?_; intro W1 H1; clear H; simp only [List.setIfInBounds_toArray, List.set_cons_zero, List.set_cons_succ] at H1; have H := H1; clear H1)))
    go_ret
    exact ⟨rfl, H.below⟩
  obtain ⟨p, hp⟩ : ∃ p : Nat → Bool, p = fun j => !((l.getD j z33).f0 == 0) := ⟨_, rfl⟩
  have HP := Aside0.mk hp
  have HBG : Aside0 (l.length ≤ 100) := ⟨by omega⟩
  have HTX : Aside0 (((1 ≤ a ∧ a ≤ 10) ∧ (textF a).toList.isEmpty = false ∧ ((textF a).toList = (textF b).toList → a = b)) ∨ (¬ (1 ≤ a ∧ a ≤ 10) ∧ (textF a).toList.isEmpty = true)) := ⟨by
    by_cases h : 1 ≤ a ∧ a ≤ 10
    · exact .inl ⟨h, textF_ne a h, textF_eq a b h⟩
    · exact .inr ⟨h, textF_em a h⟩⟩
  obtain ⟨sa, hsa⟩ : ∃ s, s = textF a := ⟨_, rfl⟩
  obtain ⟨sb, hsb⟩ : ∃ s, s = textF b := ⟨_, rfl⟩
  have CA := Aside0.mk (fun W => text_c a W)
  have CB := Aside0.mk (fun W => text_c b W)
  rw [← hsa] at HTX CA
  rw [← hsb] at HTX CB
  clear hp hsa hsb
  go_enter Tryd.func3, Tryd.ntmps3
  go_wp2_with (first
   | ((with_reducible refine gate_dst (N := 5) rfl ?_); refine hb_box rfl rfl H rfl ?_; intro gV W1 hgV H1; clear H; have H := H1; clear H1)
   | ((with_reducible refine (CA.out _).mono ?_); rintro e w2 ⟨rfl, B2⟩; replace H := H.call B2; clear B2)
   | ((with_reducible refine (CB.out _).mono ?_); rintro e w2 ⟨rfl, B2⟩; replace H := H.call B2; clear B2)
   | ((with_reducible refine gate_load rfl ?_); first
      | refine hb_load rfl rfl H rfl (k := 0) rfl Tryd.underlying23 rfl rfl ?_)
   | ((with_reducible refine gate_st rfl ?_); first
      | (refine hb_storeL rfl rfl rfl H rfl (k := 0) rfl rfl (by kernel_rfl) rfl ?_; intro W1 H1; clear H; simp only [List.setIfInBounds_toArray, List.set_cons_zero, List.set_cons_succ] at H1; have H := H1; clear H1)
      | (refine hb_storeB rfl rfl rfl H rfl (k := 0) rfl rfl (by kernel_rfl) rfl ?_; intro W1 H1; clear H; simp only [List.setIfInBounds_toArray, List.set_cons_zero, List.set_cons_succ] at H1; have H := H1; clear H1)))
  have HV := Aside0.mk H
  clear H
  go_loopw [9, 10] (fun v9 v10 wr => ∃ i : Nat, i ≤ min l.length 64 ∧ v9 = .int .i64 (cntR p i : Nat) ∧ v10 = .int .i64 i ∧ Aside0 (HG w.heap.size w [(gV, #[.int .i64 now, .int .i64 part, .slice A l.length c, .slice none 0 0, .int .i64 r0, .int .i64 r1, .int .u64 r2, .int .u64 r3, .bool false, .int .i64 ret], 30)] wr)) (fun _ v10 _ => l.length - (intOf v10).toNat)
  case atStart => exact ⟨0, Nat.zero_le _, rfl, rfl, HV⟩
  case round =>
    obtain ⟨i, hi, rfl, rfl, HX⟩ := hrel
    have H := HX.out
    clear HX
    have hwr : i ≤ 64 → wrap64 ((i : Int) + 1) = ((i + 1 : Nat) : Int) := fun h => by unfold wrap64; omega
    have hwc : wrap64 ((cntR p i : Nat) + 1 : Int) = ((cntR p i + 1 : Nat) : Int) := by
      have h1 : cntR p i ≤ i := cnt_le p i
      have h2 := Nat.le_trans hi (Nat.min_le_right _ _)
      unfold wrap64; omega
    have HWR := Aside0.mk (hwr (Nat.le_trans hi (Nat.min_le_right _ _)))
    have HWC := Aside0.mk hwc
    clear hwr hwc
    by_cases hlt : i < min l.length 64
    · have hil : i < l.length := Nat.lt_of_lt_of_le hlt (Nat.min_le_left _ _)
      have h0 : (0 : Int) ≤ i := by omega
      have h1 : (i : Int) < l.length := by omega
      have h64 : (i : Int) < 64 := by have := Nat.lt_of_lt_of_le hlt (Nat.min_le_right _ _); omega
      obtain ⟨ad, rfl, hrw⟩ := row33 HC.out i hil hil
      have hcell := (hrw.kept H.below) 0 _ rfl
      have hcell : wr.cell? (ad.add (i * 3)) = some (.int .i64 l[i].f0) := by rwa [show (ad.add (i * 3)).add 0 = ad.add (i * 3) by unfold Addr.add; rfl] at hcell
      have hst : cntR p (i + 1) = if p i = true then cntR p i + 1 else cntR p i := by rw [cntR]
      have hpi : p i = !(l[i].f0 == 0) := by rw [HP.out]; simp [List.getD_eq_getElem?_getD, List.getElem?_eq_getElem hil]
      obtain ⟨x, hx⟩ : ∃ x, x = l[i].f0 := ⟨_, rfl⟩
      rw [← hx] at hcell hpi
      have HST := Aside0.mk hst
      clear hrw hst hx
      by_cases hx0 : x = 0
      · have hpf : Aside0 (p i = false) := ⟨by rw [hpi, hx0]; rfl⟩
        have hb : (x != 0) = false := by rw [hx0]; rfl
        clear hpi hx0
        go_wp2_with (first
   | ((with_reducible refine gate_load rfl ?_); first
      | refine hb_load rfl rfl H rfl (k := 0) rfl Tryd.underlying23 rfl rfl ?_))
        go_roundw
        case rel => exact ⟨i + 1, hlt, by rw [HST.out, hpf.out]; rfl, by first | rw [HWR.out] | rfl, ⟨H⟩⟩
        case measure => (try rw [HWR.out]); simp only [intOf]; omega
      · have hpf : Aside0 (p i = true) := ⟨by rw [hpi]; simp [hx0]⟩
        have hb : (x != 0) = true := by simp [hx0]
        clear hpi hx0
        go_wp2_with (first
   | ((with_reducible refine gate_load rfl ?_); first
      | refine hb_load rfl rfl H rfl (k := 0) rfl Tryd.underlying23 rfl rfl ?_))
        go_roundw
        case rel => exact ⟨i + 1, hlt, by rw [HST.out, hpf.out]; first | (rw [HWC.out]; rfl) | rfl, by first | rw [HWR.out] | rfl, ⟨H⟩⟩
        case measure => (try rw [HWR.out]); simp only [intOf]; omega
    · have him : i = min l.length 64 := Nat.le_antisymm hi (Nat.not_lt.1 hlt)
      have hle : (l.length : Int) ≤ 100 := by have := HBG.out; omega
      have C5 := Aside0.mk (fun W => check0_c now part A c l r0 r1 r2 r3 ret W)
      have C7 := Aside0.mk (fun W => busy0_c now part A c l r0 r1 r2 r3 ret W)
      have c6 := fun W (h : Below w.heap.size w W) => outside_c now part A c l (.slice none 0 0) r0 r1 r2 r3 ret W (Kd.C_below HC.out h) HCC.out (by omega) rfl
      rw [outYtkbjlaknhedekaaDoorcnt, ← HP.out, ← him] at c6
      obtain ⟨n, hn⟩ : ∃ n, n = cntR p i := ⟨_, rfl⟩
      rw [← hn] at c6 ⊢
      have C6 := Aside0.mk c6
      have hex : ¬ ((i : Int) < l.length ∧ (i : Int) < 64) := by omega
      clear c6 hn hle him hlt hi HWR HWC
      have hab := HTX.out
      clear HTX
      by_cases hil : (i : Int) < l.length
      · have h64 : ¬ (i : Int) < 64 := fun h => hex ⟨hil, h⟩
        clear hex
        rcases hab with ⟨⟨ha1, ha2⟩, hs0, hst⟩ | ⟨hna, hs0⟩
        · by_cases hx : sa.toList = sb.toList
          · obtain rfl := hst hx
            obtain rfl := ba_inj hx
            clear hst hx
            go_wp2_with (first
   | ((with_reducible refine gate_load rfl ?_); first
      | refine hb_load rfl rfl H rfl (k := 0) rfl Tryd.underlying23 rfl rfl ?_
      | refine hb_loadRow rfl rfl H rfl (k := 0) rfl Tryd.underlying30 rfl (by kernel_rfl) ?_)
   | ((with_reducible refine (C5.out _).mono ?_); rintro e w2 ⟨rfl, B2⟩; replace H := H.call B2; clear B2)
   | ((with_reducible refine (C6.out _ H.below).mono ?_); rintro e w2 ⟨rfl, B2⟩; replace H := H.call B2; clear B2)
   | ((with_reducible refine (C7.out _).mono ?_); rintro e w2 ⟨rfl, B2⟩; replace H := H.call B2; clear B2)
   | ((with_reducible refine (one_c _ (HT.out.go H.below)).mono ?_); rintro e w2 ⟨rfl, B2⟩; replace H := H.call B2; clear B2))
            go_ret
            exact ⟨rfl, H.below⟩
          · clear hst
            go_wp2_with (first
   | ((with_reducible refine gate_load rfl ?_); first
      | refine hb_load rfl rfl H rfl (k := 0) rfl Tryd.underlying23 rfl rfl ?_
      | refine hb_loadRow rfl rfl H rfl (k := 0) rfl Tryd.underlying30 rfl (by kernel_rfl) ?_)
   | ((with_reducible refine (C5.out _).mono ?_); rintro e w2 ⟨rfl, B2⟩; replace H := H.call B2; clear B2)
   | ((with_reducible refine (C6.out _ H.below).mono ?_); rintro e w2 ⟨rfl, B2⟩; replace H := H.call B2; clear B2)
   | ((with_reducible refine (C7.out _).mono ?_); rintro e w2 ⟨rfl, B2⟩; replace H := H.call B2; clear B2)
   | ((with_reducible refine (one_c _ (HT.out.go H.below)).mono ?_); rintro e w2 ⟨rfl, B2⟩; replace H := H.call B2; clear B2))
            go_ret
            exact ⟨rfl, H.below⟩
        · have hw : a < 1 ∨ 10 < a := by omega
          clear hna
          by_cases hx : sa.toList = sb.toList
          · obtain rfl := ba_inj hx
            clear hx
            by_cases he2 : a = b
            · subst he2
              rcases hw with ha | ha
              · go_wp2_with (first
   | ((with_reducible refine gate_load rfl ?_); first
      | refine hb_load rfl rfl H rfl (k := 0) rfl Tryd.underlying23 rfl rfl ?_
      | refine hb_loadRow rfl rfl H rfl (k := 0) rfl Tryd.underlying30 rfl (by kernel_rfl) ?_)
   | ((with_reducible refine (C5.out _).mono ?_); rintro e w2 ⟨rfl, B2⟩; replace H := H.call B2; clear B2)
   | ((with_reducible refine (C6.out _ H.below).mono ?_); rintro e w2 ⟨rfl, B2⟩; replace H := H.call B2; clear B2)
   | ((with_reducible refine (C7.out _).mono ?_); rintro e w2 ⟨rfl, B2⟩; replace H := H.call B2; clear B2)
   | ((with_reducible refine (one_c _ (HT.out.go H.below)).mono ?_); rintro e w2 ⟨rfl, B2⟩; replace H := H.call B2; clear B2))
                go_ret
                exact ⟨rfl, H.below⟩
              · have ha1 : 1 ≤ a := by omega
                have ha3 : ¬ a ≤ 10 := by omega
                clear ha
                go_wp2_with (first
   | ((with_reducible refine gate_load rfl ?_); first
      | refine hb_load rfl rfl H rfl (k := 0) rfl Tryd.underlying23 rfl rfl ?_
      | refine hb_loadRow rfl rfl H rfl (k := 0) rfl Tryd.underlying30 rfl (by kernel_rfl) ?_)
   | ((with_reducible refine (C5.out _).mono ?_); rintro e w2 ⟨rfl, B2⟩; replace H := H.call B2; clear B2)
   | ((with_reducible refine (C6.out _ H.below).mono ?_); rintro e w2 ⟨rfl, B2⟩; replace H := H.call B2; clear B2)
   | ((with_reducible refine (C7.out _).mono ?_); rintro e w2 ⟨rfl, B2⟩; replace H := H.call B2; clear B2)
   | ((with_reducible refine (one_c _ (HT.out.go H.below)).mono ?_); rintro e w2 ⟨rfl, B2⟩; replace H := H.call B2; clear B2))
                go_ret
                exact ⟨rfl, H.below⟩
            · rcases hw with ha | ha
              · go_wp2_with (first
   | ((with_reducible refine gate_load rfl ?_); first
      | refine hb_load rfl rfl H rfl (k := 0) rfl Tryd.underlying23 rfl rfl ?_
      | refine hb_loadRow rfl rfl H rfl (k := 0) rfl Tryd.underlying30 rfl (by kernel_rfl) ?_)
   | ((with_reducible refine (C5.out _).mono ?_); rintro e w2 ⟨rfl, B2⟩; replace H := H.call B2; clear B2)
   | ((with_reducible refine (C6.out _ H.below).mono ?_); rintro e w2 ⟨rfl, B2⟩; replace H := H.call B2; clear B2)
   | ((with_reducible refine (C7.out _).mono ?_); rintro e w2 ⟨rfl, B2⟩; replace H := H.call B2; clear B2)
   | ((with_reducible refine (one_c _ (HT.out.go H.below)).mono ?_); rintro e w2 ⟨rfl, B2⟩; replace H := H.call B2; clear B2))
                go_ret
                exact ⟨rfl, H.below⟩
              · have ha1 : 1 ≤ a := by omega
                have ha3 : ¬ a ≤ 10 := by omega
                clear ha
                go_wp2_with (first
   | ((with_reducible refine gate_load rfl ?_); first
      | refine hb_load rfl rfl H rfl (k := 0) rfl Tryd.underlying23 rfl rfl ?_
      | refine hb_loadRow rfl rfl H rfl (k := 0) rfl Tryd.underlying30 rfl (by kernel_rfl) ?_)
   | ((with_reducible refine (C5.out _).mono ?_); rintro e w2 ⟨rfl, B2⟩; replace H := H.call B2; clear B2)
   | ((with_reducible refine (C6.out _ H.below).mono ?_); rintro e w2 ⟨rfl, B2⟩; replace H := H.call B2; clear B2)
   | ((with_reducible refine (C7.out _).mono ?_); rintro e w2 ⟨rfl, B2⟩; replace H := H.call B2; clear B2)
   | ((with_reducible refine (one_c _ (HT.out.go H.below)).mono ?_); rintro e w2 ⟨rfl, B2⟩; replace H := H.call B2; clear B2))
                go_ret
                exact ⟨rfl, H.below⟩
          · by_cases he2 : a = b
            · subst he2
              rcases hw with ha | ha
              · go_wp2_with (first
   | ((with_reducible refine gate_load rfl ?_); first
      | refine hb_load rfl rfl H rfl (k := 0) rfl Tryd.underlying23 rfl rfl ?_
      | refine hb_loadRow rfl rfl H rfl (k := 0) rfl Tryd.underlying30 rfl (by kernel_rfl) ?_)
   | ((with_reducible refine (C5.out _).mono ?_); rintro e w2 ⟨rfl, B2⟩; replace H := H.call B2; clear B2)
   | ((with_reducible refine (C6.out _ H.below).mono ?_); rintro e w2 ⟨rfl, B2⟩; replace H := H.call B2; clear B2)
   | ((with_reducible refine (C7.out _).mono ?_); rintro e w2 ⟨rfl, B2⟩; replace H := H.call B2; clear B2)
   | ((with_reducible refine (one_c _ (HT.out.go H.below)).mono ?_); rintro e w2 ⟨rfl, B2⟩; replace H := H.call B2; clear B2))
                go_ret
                exact ⟨rfl, H.below⟩
              · have ha1 : 1 ≤ a := by omega
                have ha3 : ¬ a ≤ 10 := by omega
                clear ha
                go_wp2_with (first
   | ((with_reducible refine gate_load rfl ?_); first
      | refine hb_load rfl rfl H rfl (k := 0) rfl Tryd.underlying23 rfl rfl ?_
      | refine hb_loadRow rfl rfl H rfl (k := 0) rfl Tryd.underlying30 rfl (by kernel_rfl) ?_)
   | ((with_reducible refine (C5.out _).mono ?_); rintro e w2 ⟨rfl, B2⟩; replace H := H.call B2; clear B2)
   | ((with_reducible refine (C6.out _ H.below).mono ?_); rintro e w2 ⟨rfl, B2⟩; replace H := H.call B2; clear B2)
   | ((with_reducible refine (C7.out _).mono ?_); rintro e w2 ⟨rfl, B2⟩; replace H := H.call B2; clear B2)
   | ((with_reducible refine (one_c _ (HT.out.go H.below)).mono ?_); rintro e w2 ⟨rfl, B2⟩; replace H := H.call B2; clear B2))
                go_ret
                exact ⟨rfl, H.below⟩
            · rcases hw with ha | ha
              · go_wp2_with (first
   | ((with_reducible refine gate_load rfl ?_); first
      | refine hb_load rfl rfl H rfl (k := 0) rfl Tryd.underlying23 rfl rfl ?_
      | refine hb_loadRow rfl rfl H rfl (k := 0) rfl Tryd.underlying30 rfl (by kernel_rfl) ?_)
   | ((with_reducible refine (C5.out _).mono ?_); rintro e w2 ⟨rfl, B2⟩; replace H := H.call B2; clear B2)
   | ((with_reducible refine (C6.out _ H.below).mono ?_); rintro e w2 ⟨rfl, B2⟩; replace H := H.call B2; clear B2)
   | ((with_reducible refine (C7.out _).mono ?_); rintro e w2 ⟨rfl, B2⟩; replace H := H.call B2; clear B2)
   | ((with_reducible refine (one_c _ (HT.out.go H.below)).mono ?_); rintro e w2 ⟨rfl, B2⟩; replace H := H.call B2; clear B2))
                go_ret
                exact ⟨rfl, H.below⟩
              · have ha1 : 1 ≤ a := by omega
                have ha3 : ¬ a ≤ 10 := by omega
                clear ha
                go_wp2_with (first
   | ((with_reducible refine gate_load rfl ?_); first
      | refine hb_load rfl rfl H rfl (k := 0) rfl Tryd.underlying23 rfl rfl ?_
      | refine hb_loadRow rfl rfl H rfl (k := 0) rfl Tryd.underlying30 rfl (by kernel_rfl) ?_)
   | ((with_reducible refine (C5.out _).mono ?_); rintro e w2 ⟨rfl, B2⟩; replace H := H.call B2; clear B2)
   | ((with_reducible refine (C6.out _ H.below).mono ?_); rintro e w2 ⟨rfl, B2⟩; replace H := H.call B2; clear B2)
   | ((with_reducible refine (C7.out _).mono ?_); rintro e w2 ⟨rfl, B2⟩; replace H := H.call B2; clear B2)
   | ((with_reducible refine (one_c _ (HT.out.go H.below)).mono ?_); rintro e w2 ⟨rfl, B2⟩; replace H := H.call B2; clear B2))
                go_ret
                exact ⟨rfl, H.below⟩
      · clear hex
        rcases hab with ⟨⟨ha1, ha2⟩, hs0, hst⟩ | ⟨hna, hs0⟩
        · by_cases hx : sa.toList = sb.toList
          · obtain rfl := hst hx
            obtain rfl := ba_inj hx
            clear hst hx
            go_wp2_with (first
   | ((with_reducible refine gate_load rfl ?_); first
      | refine hb_load rfl rfl H rfl (k := 0) rfl Tryd.underlying23 rfl rfl ?_
      | refine hb_loadRow rfl rfl H rfl (k := 0) rfl Tryd.underlying30 rfl (by kernel_rfl) ?_)
   | ((with_reducible refine (C5.out _).mono ?_); rintro e w2 ⟨rfl, B2⟩; replace H := H.call B2; clear B2)
   | ((with_reducible refine (C6.out _ H.below).mono ?_); rintro e w2 ⟨rfl, B2⟩; replace H := H.call B2; clear B2)
   | ((with_reducible refine (C7.out _).mono ?_); rintro e w2 ⟨rfl, B2⟩; replace H := H.call B2; clear B2)
   | ((with_reducible refine (one_c _ (HT.out.go H.below)).mono ?_); rintro e w2 ⟨rfl, B2⟩; replace H := H.call B2; clear B2))
            go_ret
            exact ⟨rfl, H.below⟩
          · clear hst
            go_wp2_with (first
   | ((with_reducible refine gate_load rfl ?_); first
      | refine hb_load rfl rfl H rfl (k := 0) rfl Tryd.underlying23 rfl rfl ?_
      | refine hb_loadRow rfl rfl H rfl (k := 0) rfl Tryd.underlying30 rfl (by kernel_rfl) ?_)
   | ((with_reducible refine (C5.out _).mono ?_); rintro e w2 ⟨rfl, B2⟩; replace H := H.call B2; clear B2)
   | ((with_reducible refine (C6.out _ H.below).mono ?_); rintro e w2 ⟨rfl, B2⟩; replace H := H.call B2; clear B2)
   | ((with_reducible refine (C7.out _).mono ?_); rintro e w2 ⟨rfl, B2⟩; replace H := H.call B2; clear B2)
   | ((with_reducible refine (one_c _ (HT.out.go H.below)).mono ?_); rintro e w2 ⟨rfl, B2⟩; replace H := H.call B2; clear B2))
            go_ret
            exact ⟨rfl, H.below⟩
        · have hw : a < 1 ∨ 10 < a := by omega
          clear hna
          by_cases hx : sa.toList = sb.toList
          · obtain rfl := ba_inj hx
            clear hx
            by_cases he2 : a = b
            · subst he2
              rcases hw with ha | ha
              · go_wp2_with (first
   | ((with_reducible refine gate_load rfl ?_); first
      | refine hb_load rfl rfl H rfl (k := 0) rfl Tryd.underlying23 rfl rfl ?_
      | refine hb_loadRow rfl rfl H rfl (k := 0) rfl Tryd.underlying30 rfl (by kernel_rfl) ?_)
   | ((with_reducible refine (C5.out _).mono ?_); rintro e w2 ⟨rfl, B2⟩; replace H := H.call B2; clear B2)
   | ((with_reducible refine (C6.out _ H.below).mono ?_); rintro e w2 ⟨rfl, B2⟩; replace H := H.call B2; clear B2)
   | ((with_reducible refine (C7.out _).mono ?_); rintro e w2 ⟨rfl, B2⟩; replace H := H.call B2; clear B2)
   | ((with_reducible refine (one_c _ (HT.out.go H.below)).mono ?_); rintro e w2 ⟨rfl, B2⟩; replace H := H.call B2; clear B2))
                go_ret
                exact ⟨rfl, H.below⟩
              · have ha1 : 1 ≤ a := by omega
                have ha3 : ¬ a ≤ 10 := by omega
                clear ha
                go_wp2_with (first
   | ((with_reducible refine gate_load rfl ?_); first
      | refine hb_load rfl rfl H rfl (k := 0) rfl Tryd.underlying23 rfl rfl ?_
      | refine hb_loadRow rfl rfl H rfl (k := 0) rfl Tryd.underlying30 rfl (by kernel_rfl) ?_)
   | ((with_reducible refine (C5.out _).mono ?_); rintro e w2 ⟨rfl, B2⟩; replace H := H.call B2; clear B2)
   | ((with_reducible refine (C6.out _ H.below).mono ?_); rintro e w2 ⟨rfl, B2⟩; replace H := H.call B2; clear B2)
   | ((with_reducible refine (C7.out _).mono ?_); rintro e w2 ⟨rfl, B2⟩; replace H := H.call B2; clear B2)
   | ((with_reducible refine (one_c _ (HT.out.go H.below)).mono ?_); rintro e w2 ⟨rfl, B2⟩; replace H := H.call B2; clear B2))
                go_ret
                exact ⟨rfl, H.below⟩
            · rcases hw with ha | ha
              · go_wp2_with (first
   | ((with_reducible refine gate_load rfl ?_); first
      | refine hb_load rfl rfl H rfl (k := 0) rfl Tryd.underlying23 rfl rfl ?_
      | refine hb_loadRow rfl rfl H rfl (k := 0) rfl Tryd.underlying30 rfl (by kernel_rfl) ?_)
   | ((with_reducible refine (C5.out _).mono ?_); rintro e w2 ⟨rfl, B2⟩; replace H := H.call B2; clear B2)
   | ((with_reducible refine (C6.out _ H.below).mono ?_); rintro e w2 ⟨rfl, B2⟩; replace H := H.call B2; clear B2)
   | ((with_reducible refine (C7.out _).mono ?_); rintro e w2 ⟨rfl, B2⟩; replace H := H.call B2; clear B2)
   | ((with_reducible refine (one_c _ (HT.out.go H.below)).mono ?_); rintro e w2 ⟨rfl, B2⟩; replace H := H.call B2; clear B2))
                go_ret
                exact ⟨rfl, H.below⟩
              · have ha1 : 1 ≤ a := by omega
                have ha3 : ¬ a ≤ 10 := by omega
                clear ha
                go_wp2_with (first
   | ((with_reducible refine gate_load rfl ?_); first
      | refine hb_load rfl rfl H rfl (k := 0) rfl Tryd.underlying23 rfl rfl ?_
      | refine hb_loadRow rfl rfl H rfl (k := 0) rfl Tryd.underlying30 rfl (by kernel_rfl) ?_)
   | ((with_reducible refine (C5.out _).mono ?_); rintro e w2 ⟨rfl, B2⟩; replace H := H.call B2; clear B2)
   | ((with_reducible refine (C6.out _ H.below).mono ?_); rintro e w2 ⟨rfl, B2⟩; replace H := H.call B2; clear B2)
   | ((with_reducible refine (C7.out _).mono ?_); rintro e w2 ⟨rfl, B2⟩; replace H := H.call B2; clear B2)
   | ((with_reducible refine (one_c _ (HT.out.go H.below)).mono ?_); rintro e w2 ⟨rfl, B2⟩; replace H := H.call B2; clear B2))
                go_ret
                exact ⟨rfl, H.below⟩
          · by_cases he2 : a = b
            · subst he2
              rcases hw with ha | ha
              · go_wp2_with (first
   | ((with_reducible refine gate_load rfl ?_); first
      | refine hb_load rfl rfl H rfl (k := 0) rfl Tryd.underlying23 rfl rfl ?_
      | refine hb_loadRow rfl rfl H rfl (k := 0) rfl Tryd.underlying30 rfl (by kernel_rfl) ?_)
   | ((with_reducible refine (C5.out _).mono ?_); rintro e w2 ⟨rfl, B2⟩; replace H := H.call B2; clear B2)
   | ((with_reducible refine (C6.out _ H.below).mono ?_); rintro e w2 ⟨rfl, B2⟩; replace H := H.call B2; clear B2)
   | ((with_reducible refine (C7.out _).mono ?_); rintro e w2 ⟨rfl, B2⟩; replace H := H.call B2; clear B2)
   | ((with_reducible refine (one_c _ (HT.out.go H.below)).mono ?_); rintro e w2 ⟨rfl, B2⟩; replace H := H.call B2; clear B2))
                go_ret
                exact ⟨rfl, H.below⟩
              · have ha1 : 1 ≤ a := by omega
                have ha3 : ¬ a ≤ 10 := by omega
                clear ha
                go_wp2_with (first
   | ((with_reducible refine gate_load rfl ?_); first
      | refine hb_load rfl rfl H rfl (k := 0) rfl Tryd.underlying23 rfl rfl ?_
      | refine hb_loadRow rfl rfl H rfl (k := 0) rfl Tryd.underlying30 rfl (by kernel_rfl) ?_)
   | ((with_reducible refine (C5.out _).mono ?_); rintro e w2 ⟨rfl, B2⟩; replace H := H.call B2; clear B2)
   | ((with_reducible refine (C6.out _ H.below).mono ?_); rintro e w2 ⟨rfl, B2⟩; replace H := H.call B2; clear B2)
   | ((with_reducible refine (C7.out _).mono ?_); rintro e w2 ⟨rfl, B2⟩; replace H := H.call B2; clear B2)
   | ((with_reducible refine (one_c _ (HT.out.go H.below)).mono ?_); rintro e w2 ⟨rfl, B2⟩; replace H := H.call B2; clear B2))
                go_ret
                exact ⟨rfl, H.below⟩
            · rcases hw with ha | ha
              · go_wp2_with (first
   | ((with_reducible refine gate_load rfl ?_); first
      | refine hb_load rfl rfl H rfl (k := 0) rfl Tryd.underlying23 rfl rfl ?_
      | refine hb_loadRow rfl rfl H rfl (k := 0) rfl Tryd.underlying30 rfl (by kernel_rfl) ?_)
   | ((with_reducible refine (C5.out _).mono ?_); rintro e w2 ⟨rfl, B2⟩; replace H := H.call B2; clear B2)
   | ((with_reducible refine (C6.out _ H.below).mono ?_); rintro e w2 ⟨rfl, B2⟩; replace H := H.call B2; clear B2)
   | ((with_reducible refine (C7.out _).mono ?_); rintro e w2 ⟨rfl, B2⟩; replace H := H.call B2; clear B2)
   | ((with_reducible refine (one_c _ (HT.out.go H.below)).mono ?_); rintro e w2 ⟨rfl, B2⟩; replace H := H.call B2; clear B2))
                go_ret
                exact ⟨rfl, H.below⟩
              · have ha1 : 1 ≤ a := by omega
                have ha3 : ¬ a ≤ 10 := by omega
                clear ha
                go_wp2_with (first
   | ((with_reducible refine gate_load rfl ?_); first
      | refine hb_load rfl rfl H rfl (k := 0) rfl Tryd.underlying23 rfl rfl ?_
      | refine hb_loadRow rfl rfl H rfl (k := 0) rfl Tryd.underlying30 rfl (by kernel_rfl) ?_)
   | ((with_reducible refine (C5.out _).mono ?_); rintro e w2 ⟨rfl, B2⟩; replace H := H.call B2; clear B2)
   | ((with_reducible refine (C6.out _ H.below).mono ?_); rintro e w2 ⟨rfl, B2⟩; replace H := H.call B2; clear B2)
   | ((with_reducible refine (C7.out _).mono ?_); rintro e w2 ⟨rfl, B2⟩; replace H := H.call B2; clear B2)
   | ((with_reducible refine (one_c _ (HT.out.go H.below)).mono ?_); rintro e w2 ⟨rfl, B2⟩; replace H := H.call B2; clear B2))
                go_ret
                exact ⟨rfl, H.below⟩
end Go.Proofs.YtkbjlaknhedekaaDoor.Sm
