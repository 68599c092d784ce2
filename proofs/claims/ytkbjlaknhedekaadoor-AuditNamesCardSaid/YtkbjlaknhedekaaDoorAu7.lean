/- The example's view, checked. Conditions: those that each theorem states. -/
import Derived.Test.YtkbjlaknhedekaaDoorAu4
import Derived.Test.YtkbjlaknhedekaaDoorAu6
set_option linter.unusedVariables false
set_option linter.unusedSimpArgs false
/- The example's view, checked. -/
namespace Go.Proofs.YtkbjlaknhedekaaDoor.Sm
open Go Go.Proofs Go.RowKit Go.Proofs.BitsPlain Go.Proofs.YtkbjlaknhedekaaDoorW.PrintWords Go.Proofs.YtkbjlaknhedekaaDoorW.PrintLast Go.Proofs.YtkbjlaknhedekaaDoorW.PrintMore Go.Proofs.YtkbjlaknhedekaaDoor.PAuditNames
section
variable {w W W1 : World} {l : Bs} {g q k m : Nat} {cs cs' cq : Array Value} {t0 tq : TypeId}
theorem HG.through2 (h : HG m w l W) (hk : l[k]? = some (g, cs, t0)) (h1 : HG 0 W [(g, cs', t0)] W1) (hq : W.heap.size ≤ q) (hb : W1.heap[q]? = some (.cells cq tq (0, 0))) : HG m w ((q, cq, tq) :: l.set k (g, cs', t0)) W1 := by
  have h2 := h.through hk h1
  refine ⟨h2.below, fun x hx => ?_, List.pairwise_cons.2 ⟨fun x hx => ?_, h2.apart⟩, h2.le, fun j hj hn => h2.kept j hj fun x hx => hn x (List.mem_cons_of_mem _ hx)⟩
  · rcases List.mem_cons.1 hx with rfl | hx
    · exact ⟨Nat.le_trans (Nat.le_trans h.le h.below.size) hq, hb⟩
    · exact h2.all x hx
  · have : x.1 < W.heap.size := by
      obtain ⟨j, hj, e⟩ := List.mem_iff_getElem.1 hx
      rw [List.getElem_set] at e
      split at e
      · subst e; exact blk_lt (h.get hk)
      · subst e; exact h.lt (List.getElem_mem _)
    show q ≠ x.1; omega
theorem rowOf {off : Nat} {vs : List Value} (hb : w.heap[g]? = some (.cells cs t0 (0, 0))) (hv : (cs.toList.drop off).take vs.length = vs) : RowAt w ⟨g, off, none⟩ vs := fun j v hj => by
  have e : (⟨g, off, none⟩ : Addr).add j = ⟨g, off + j, none⟩ := by unfold Addr.add; split <;> simp_all
  rw [e, blk_cell hb]
  rw [← hv, List.getElem?_take] at hj
  split at hj
  · rw [List.getElem?_drop] at hj; simpa using hj
  · cases hj
end
theorem running0_c (id : Int) (A : Option Addr) (c : Nat) (l : List S33) (J : Value) (g : Nat) (w : World) (h0g : 0 < g) (hT : Tab w) (hC : Kd.C k33 w A l.length l) (hc : l.length ≤ c) (hl4 : l.length = 4) (hd : inR l 2 l.length = 0) (hJ : J.cells = #[J]) :
    Calls Tryd.prog 9 #[.pointer (some ⟨g, 0, none⟩), .agg #[.int .i64 0, .int .i64 0, .slice A l.length c, J, .int .i64 0, .int .i64 0, .int .u64 0, .int .u64 0, .bool false, .int .i64 0], .agg #[.int .i64 id, .int .i64 0, .int .i64 0, .int .i64 1, .int .i64 5, .int .i64 0, .int .i64 0, .bool false, .int .i64 1, .int .i64 0, .int .i64 0, .int .i64 0, .int .i64 0, .int .u64 0, .int .u64 8, .int .i64 0, .int .i64 0], .int .u64 0] w fun e w' => (∃ v, e = .returned v) ∧ Below w.heap.size w w' :=
  (running_c false 0 has_0 id A c l J g w h0g (fun h => by cases h) hT hC hc hl4 hd hJ).mono fun e w' h => by
    obtain ⟨hv, X, hX, H⟩ := h
    rcases hX with ⟨_, rfl⟩ | ⟨_, h, _⟩
    · exact ⟨hv, H.same (fun x hx => by cases hx)⟩
    · cases h
theorem has_8 : bits_Set_Has.f 8 3 = some true := by kernel_rfl
theorem running1_c (id : Int) (A : Option Addr) (c : Nat) (l : List S33) (J : Value) (g : Nat) (w : World) (h0g : 0 < g) (hg : w.heap[g]? = some (.cells #[.slice none 0 0] 41 (0, 0))) (hT : Tab w) (hC : Kd.C k33 w A l.length l) (hc : l.length ≤ c) (hl4 : l.length = 4) (hd : inR l 2 l.length = 0) (hJ : J.cells = #[J]) :
    Calls Tryd.prog 9 #[.pointer (some ⟨g, 0, none⟩), .agg #[.int .i64 0, .int .i64 0, .slice A l.length c, J, .int .i64 0, .int .i64 0, .int .u64 0, .int .u64 0, .bool false, .int .i64 0], .agg #[.int .i64 id, .int .i64 0, .int .i64 0, .int .i64 1, .int .i64 5, .int .i64 0, .int .i64 0, .bool false, .int .i64 1, .int .i64 0, .int .i64 0, .int .i64 0, .int .i64 0, .int .u64 0, .int .u64 8, .int .i64 0, .int .i64 0], .int .u64 8] w fun e w' => (∃ v, e = .returned v) ∧ ∃ q c' zs, w.heap.size ≤ q ∧ w'.heap[q]? = some (.cells ([.int .i64 2, .int .i64 id, .int .i64 3] ++ zs).toArray 48 (0, 0)) ∧ HG 0 w [(g, #[.slice (some ⟨q, 0, none⟩) 1 c'], 41)] w' :=
  (running_c true 8 has_8 id A c l J g w h0g (fun _ => hg) hT hC hc hl4 hd hJ).mono fun e w' h => by
    obtain ⟨hv, X, hX, H⟩ := h
    rcases hX with ⟨h | h, _⟩ | ⟨_, _, q, c', zs, hq, rfl⟩
    · cases h
    · cases h
    · exact ⟨hv, q, c', zs, hq, H.get (k := 1) rfl, (H.perm (.swap _ _ _)).drop hq⟩
theorem zero43 (w : World) : (zeroValue 43).run Tryd.prog w = .ok (.agg #[.int .i64 0, .int .i64 0, .int .i64 0, .int .i64 0, .int .i64 0, .int .i64 0, .int .i64 0, .bool false, .int .i64 0, .int .i64 0, .int .i64 0, .int .i64 0, .int .i64 0, .int .u64 0, .int .u64 0, .int .i64 0, .int .i64 0]) w := by kernel_rfl
theorem or08 : bits_Set_Or.f 0 8 = some 8 := by kernel_rfl
theorem or88 : bits_Set_Or.f 8 8 = some 8 := by kernel_rfl
set_option maxRecDepth 100000 in
set_option maxHeartbeats 4000000 in
theorem check1_c (A : Option Addr) (c : Nat) (l : List S33) (b cb : Nat) (w : World) (hb : w.heap[b]? = some (.cells #[.int .i64 1, .int .i64 0, .int .i64 0, .int .i64 1, .int .i64 5, .int .i64 0, .int .i64 0, .bool false, .int .i64 1, .int .i64 0, .int .i64 0, .int .i64 0, .int .i64 0, .int .u64 0, .int .u64 8, .int .i64 0, .int .i64 0, .int .i64 2, .int .i64 0, .int .i64 0, .int .i64 1, .int .i64 5, .int .i64 0, .int .i64 0, .bool false, .int .i64 1, .int .i64 0, .int .i64 0, .int .i64 0, .int .i64 0, .int .u64 0, .int .u64 8, .int .i64 0, .int .i64 0] 43 (0, 0))) (hT : Tab w) (hC : Kd.C k33 w A l.length l) (hc : l.length ≤ c) (hl4 : l.length = 4) (hd : inR l 2 l.length = 0) :
    Calls Tryd.prog 5 #[.agg #[.int .i64 0, .int .i64 0, .slice A l.length c, .slice (some ⟨b, 0, none⟩) 2 cb, .int .i64 0, .int .i64 0, .int .u64 0, .int .u64 0, .bool false, .int .i64 0]] w fun e w' => ∃ q c' zs, e = .returned (.slice (some ⟨q, 0, none⟩) 1 c') ∧ w'.heap[q]? = some (.cells ([.int .i64 2, .int .i64 2, .int .i64 3] ++ zs).toArray 48 (0, 0)) ∧ Below w.heap.size w w' := by
  have hu30 := Tryd.underlying30
  have hu24 := Tryd.underlying24
  have hu43 := Tryd.underlying43
  have H := HB.start w
  have HR1 : Aside0 (RowAt w ⟨b, 0, none⟩ #[.int .i64 1, .int .i64 0, .int .i64 0, .int .i64 1, .int .i64 5, .int .i64 0, .int .i64 0, .bool false, .int .i64 1, .int .i64 0, .int .i64 0, .int .i64 0, .int .i64 0, .int .u64 0, .int .u64 8, .int .i64 0, .int .i64 0].toList) := ⟨rowOf hb rfl⟩
  have HR2 : Aside0 (RowAt w ⟨b, 17, none⟩ #[.int .i64 2, .int .i64 0, .int .i64 0, .int .i64 1, .int .i64 5, .int .i64 0, .int .i64 0, .bool false, .int .i64 1, .int .i64 0, .int .i64 0, .int .i64 0, .int .i64 0, .int .u64 0, .int .u64 8, .int .i64 0, .int .i64 0].toList) := ⟨rowOf hb rfl⟩
  have HT := Aside0.mk hT
  have HC := Aside0.mk hC
  have HCC := Aside0.mk hc
  have HL4 := Aside0.mk hl4
  have HD := Aside0.mk hd
  have HP := Aside0.mk hT.size
  clear hb hT hC hc hl4 hd
  go_enter Tryd.func5, Tryd.ntmps5
  go_wp2_with (first
   | ((with_reducible refine gate_dst (N := 1) rfl ?_); refine hb_box rfl rfl H rfl ?_; intro gv W1 hgv H1; clear H; have H := H1; clear H1)
   | ((with_reducible refine gate_dst (N := 3) rfl ?_); refine hb_alloc1 rfl rfl H zero41 rfl ?_; intro gl W1 hgl H1; clear H; have H := H1; clear H1)
   | ((with_reducible refine gate_alloc rfl ?_); refine hb_alloc rfl rfl H zero43 ?_; intro gr W1 hgr H1; clear H; have H := H1; clear H1)
   | ((with_reducible refine gate_load rfl ?_); first
      | refine hb_elem rfl rfl (HR1.out.kept H.below) rfl Tryd.underlying43 rfl (by kernel_rfl) ?_
      | refine hb_elem rfl rfl (HR2.out.kept H.below) rfl Tryd.underlying43 rfl (by kernel_rfl) ?_
      | refine hb_load rfl rfl H rfl (k := 0) rfl Tryd.underlying3 rfl rfl ?_
      | refine hb_load rfl rfl H rfl (k := 0) rfl Tryd.underlying26 rfl rfl ?_
      | refine hb_load rfl rfl H rfl (k := 0) rfl Tryd.underlying24 rfl rfl ?_
      | refine hb_load rfl rfl H rfl (k := 0) rfl Tryd.underlying41 rfl rfl ?_
      | refine hb_load rfl rfl H rfl (k := 1) rfl Tryd.underlying3 rfl rfl ?_
      | refine hb_load rfl rfl H rfl (k := 1) rfl Tryd.underlying26 rfl rfl ?_
      | refine hb_load rfl rfl H rfl (k := 1) rfl Tryd.underlying24 rfl rfl ?_
      | refine hb_load rfl rfl H rfl (k := 1) rfl Tryd.underlying41 rfl rfl ?_
      | refine hb_load rfl rfl H rfl (k := 2) rfl Tryd.underlying3 rfl rfl ?_
      | refine hb_load rfl rfl H rfl (k := 2) rfl Tryd.underlying26 rfl rfl ?_
      | refine hb_load rfl rfl H rfl (k := 2) rfl Tryd.underlying24 rfl rfl ?_
      | refine hb_load rfl rfl H rfl (k := 2) rfl Tryd.underlying41 rfl rfl ?_
      | refine hb_load rfl rfl H rfl (k := 3) rfl Tryd.underlying3 rfl rfl ?_
      | refine hb_load rfl rfl H rfl (k := 3) rfl Tryd.underlying26 rfl rfl ?_
      | refine hb_load rfl rfl H rfl (k := 3) rfl Tryd.underlying24 rfl rfl ?_
      | refine hb_load rfl rfl H rfl (k := 3) rfl Tryd.underlying41 rfl rfl ?_
      | refine hb_load rfl rfl H rfl (k := 4) rfl Tryd.underlying3 rfl rfl ?_
      | refine hb_load rfl rfl H rfl (k := 4) rfl Tryd.underlying26 rfl rfl ?_
      | refine hb_load rfl rfl H rfl (k := 4) rfl Tryd.underlying24 rfl rfl ?_
      | refine hb_load rfl rfl H rfl (k := 4) rfl Tryd.underlying41 rfl rfl ?_
      | refine hb_loadRow rfl rfl H rfl (k := 0) rfl Tryd.underlying30 rfl (by kernel_rfl) ?_
      | refine hb_loadRow rfl rfl H rfl (k := 0) rfl Tryd.underlying43 rfl (by kernel_rfl) ?_
      | refine hb_loadRow rfl rfl H rfl (k := 1) rfl Tryd.underlying30 rfl (by kernel_rfl) ?_
      | refine hb_loadRow rfl rfl H rfl (k := 1) rfl Tryd.underlying43 rfl (by kernel_rfl) ?_
      | refine hb_loadRow rfl rfl H rfl (k := 2) rfl Tryd.underlying30 rfl (by kernel_rfl) ?_
      | refine hb_loadRow rfl rfl H rfl (k := 2) rfl Tryd.underlying43 rfl (by kernel_rfl) ?_
      | refine hb_loadRow rfl rfl H rfl (k := 3) rfl Tryd.underlying30 rfl (by kernel_rfl) ?_
      | refine hb_loadRow rfl rfl H rfl (k := 3) rfl Tryd.underlying43 rfl (by kernel_rfl) ?_
      | refine hb_loadRow rfl rfl H rfl (k := 4) rfl Tryd.underlying30 rfl (by kernel_rfl) ?_
      | refine hb_loadRow rfl rfl H rfl (k := 4) rfl Tryd.underlying43 rfl (by kernel_rfl) ?_)
   | ((with_reducible refine gate_st rfl ?_); refine hb_storeRow rfl rfl rfl H rfl (k := 0) rfl rfl (by kernel_rfl) rfl (by rfl) ?_; intro W1 H1; clear H; simp only [List.setIfInBounds_toArray, List.set_cons_zero, List.set_cons_succ] at H1; have H := H1; clear H1)
   | ((with_reducible refine (running0_c 1 A c l (.slice (some ⟨b, 0, none⟩) 2 cb) _ _ (Nat.lt_of_lt_of_le HP.out hgl) (HT.out.go H.below) (Kd.C_below HC.out H.below) HCC.out HL4.out HD.out rfl).mono ?_); rintro e w2 ⟨⟨v, rfl⟩, B2⟩; replace H := H.call B2; clear B2)
   | ((with_reducible refine (running1_c 2 A c l (.slice (some ⟨b, 0, none⟩) 2 cb) _ _ (Nat.lt_of_lt_of_le HP.out hgl) (H.get (k := 2) rfl) (HT.out.go H.below) (Kd.C_below HC.out H.below) HCC.out HL4.out HD.out rfl).mono ?_); rintro e w2 ⟨⟨v, rfl⟩, q, c1, zs, hq, hqb, H1⟩; have H2 := H.through2 (k := 2) rfl H1 hq hqb; clear H H1 hq hqb; simp only [List.set_cons_zero, List.set_cons_succ] at H2; have H := H2; clear H2)
   | ((with_reducible refine (bits_Set_Or.calls 0 8 8 _ or08).mono ?_); rintro e w2 ⟨rfl, B2⟩; replace H := H.drawn B2; clear B2)
   | ((with_reducible refine (bits_Set_Or.calls 8 8 8 _ or88).mono ?_); rintro e w2 ⟨rfl, B2⟩; replace H := H.drawn B2; clear B2)
   | ((with_reducible refine (drain0_c _ rfl 0 0 A c l (.slice (some ⟨b, 0, none⟩) 2 cb) 0 0 0 0 0 rfl _).mono ?_); rintro e w2 ⟨⟨v, rfl⟩, B2⟩; replace H := H.call B2; clear B2))
  refine wp_loop_rounds 3 ?_
  iterate 3 (rw [rounds_succ]; go_wp2_with (first
   | ((with_reducible refine gate_dst (N := 1) rfl ?_); refine hb_box rfl rfl H rfl ?_; intro gv W1 hgv H1; clear H; have H := H1; clear H1)
   | ((with_reducible refine gate_dst (N := 3) rfl ?_); refine hb_alloc1 rfl rfl H zero41 rfl ?_; intro gl W1 hgl H1; clear H; have H := H1; clear H1)
   | ((with_reducible refine gate_alloc rfl ?_); refine hb_alloc rfl rfl H zero43 ?_; intro gr W1 hgr H1; clear H; have H := H1; clear H1)
   | ((with_reducible refine gate_load rfl ?_); first
      | refine hb_elem rfl rfl (HR1.out.kept H.below) rfl Tryd.underlying43 rfl (by kernel_rfl) ?_
      | refine hb_elem rfl rfl (HR2.out.kept H.below) rfl Tryd.underlying43 rfl (by kernel_rfl) ?_
      | refine hb_load rfl rfl H rfl (k := 0) rfl Tryd.underlying3 rfl rfl ?_
      | refine hb_load rfl rfl H rfl (k := 0) rfl Tryd.underlying26 rfl rfl ?_
      | refine hb_load rfl rfl H rfl (k := 0) rfl Tryd.underlying24 rfl rfl ?_
      | refine hb_load rfl rfl H rfl (k := 0) rfl Tryd.underlying41 rfl rfl ?_
      | refine hb_load rfl rfl H rfl (k := 1) rfl Tryd.underlying3 rfl rfl ?_
      | refine hb_load rfl rfl H rfl (k := 1) rfl Tryd.underlying26 rfl rfl ?_
      | refine hb_load rfl rfl H rfl (k := 1) rfl Tryd.underlying24 rfl rfl ?_
      | refine hb_load rfl rfl H rfl (k := 1) rfl Tryd.underlying41 rfl rfl ?_
      | refine hb_load rfl rfl H rfl (k := 2) rfl Tryd.underlying3 rfl rfl ?_
      | refine hb_load rfl rfl H rfl (k := 2) rfl Tryd.underlying26 rfl rfl ?_
      | refine hb_load rfl rfl H rfl (k := 2) rfl Tryd.underlying24 rfl rfl ?_
      | refine hb_load rfl rfl H rfl (k := 2) rfl Tryd.underlying41 rfl rfl ?_
      | refine hb_load rfl rfl H rfl (k := 3) rfl Tryd.underlying3 rfl rfl ?_
      | refine hb_load rfl rfl H rfl (k := 3) rfl Tryd.underlying26 rfl rfl ?_
      | refine hb_load rfl rfl H rfl (k := 3) rfl Tryd.underlying24 rfl rfl ?_
      | refine hb_load rfl rfl H rfl (k := 3) rfl Tryd.underlying41 rfl rfl ?_
      | refine hb_load rfl rfl H rfl (k := 4) rfl Tryd.underlying3 rfl rfl ?_
      | refine hb_load rfl rfl H rfl (k := 4) rfl Tryd.underlying26 rfl rfl ?_
      | refine hb_load rfl rfl H rfl (k := 4) rfl Tryd.underlying24 rfl rfl ?_
      | refine hb_load rfl rfl H rfl (k := 4) rfl Tryd.underlying41 rfl rfl ?_
      | refine hb_loadRow rfl rfl H rfl (k := 0) rfl Tryd.underlying30 rfl (by kernel_rfl) ?_
      | refine hb_loadRow rfl rfl H rfl (k := 0) rfl Tryd.underlying43 rfl (by kernel_rfl) ?_
      | refine hb_loadRow rfl rfl H rfl (k := 1) rfl Tryd.underlying30 rfl (by kernel_rfl) ?_
      | refine hb_loadRow rfl rfl H rfl (k := 1) rfl Tryd.underlying43 rfl (by kernel_rfl) ?_
      | refine hb_loadRow rfl rfl H rfl (k := 2) rfl Tryd.underlying30 rfl (by kernel_rfl) ?_
      | refine hb_loadRow rfl rfl H rfl (k := 2) rfl Tryd.underlying43 rfl (by kernel_rfl) ?_
      | refine hb_loadRow rfl rfl H rfl (k := 3) rfl Tryd.underlying30 rfl (by kernel_rfl) ?_
      | refine hb_loadRow rfl rfl H rfl (k := 3) rfl Tryd.underlying43 rfl (by kernel_rfl) ?_
      | refine hb_loadRow rfl rfl H rfl (k := 4) rfl Tryd.underlying30 rfl (by kernel_rfl) ?_
      | refine hb_loadRow rfl rfl H rfl (k := 4) rfl Tryd.underlying43 rfl (by kernel_rfl) ?_)
   | ((with_reducible refine gate_st rfl ?_); refine hb_storeRow rfl rfl rfl H rfl (k := 0) rfl rfl (by kernel_rfl) rfl (by rfl) ?_; intro W1 H1; clear H; simp only [List.setIfInBounds_toArray, List.set_cons_zero, List.set_cons_succ] at H1; have H := H1; clear H1)
   | ((with_reducible refine (running0_c 1 A c l (.slice (some ⟨b, 0, none⟩) 2 cb) _ _ (Nat.lt_of_lt_of_le HP.out hgl) (HT.out.go H.below) (Kd.C_below HC.out H.below) HCC.out HL4.out HD.out rfl).mono ?_); rintro e w2 ⟨⟨v, rfl⟩, B2⟩; replace H := H.call B2; clear B2)
   | ((with_reducible refine (running1_c 2 A c l (.slice (some ⟨b, 0, none⟩) 2 cb) _ _ (Nat.lt_of_lt_of_le HP.out hgl) (H.get (k := 2) rfl) (HT.out.go H.below) (Kd.C_below HC.out H.below) HCC.out HL4.out HD.out rfl).mono ?_); rintro e w2 ⟨⟨v, rfl⟩, q, c1, zs, hq, hqb, H1⟩; have H2 := H.through2 (k := 2) rfl H1 hq hqb; clear H H1 hq hqb; simp only [List.set_cons_zero, List.set_cons_succ] at H2; have H := H2; clear H2)
   | ((with_reducible refine (bits_Set_Or.calls 0 8 8 _ or08).mono ?_); rintro e w2 ⟨rfl, B2⟩; replace H := H.drawn B2; clear B2)
   | ((with_reducible refine (bits_Set_Or.calls 8 8 8 _ or88).mono ?_); rintro e w2 ⟨rfl, B2⟩; replace H := H.drawn B2; clear B2)
   | ((with_reducible refine (drain0_c _ rfl 0 0 A c l (.slice (some ⟨b, 0, none⟩) 2 cb) 0 0 0 0 0 rfl _).mono ?_); rintro e w2 ⟨⟨v, rfl⟩, B2⟩; replace H := H.call B2; clear B2)))
  exact bodyPost_ret (results_tmp rfl _ _ _) rfl ⟨q, c1, zs, rfl, H.get (k := 0) rfl, H.below⟩
end Go.Proofs.YtkbjlaknhedekaaDoor.Sm
