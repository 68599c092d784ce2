/- The reference's Read of steps: contract. Conditions: bytes, fewer than 2^47. -/
import Derived.Test.YtkkjjogbfjahgaaDoorSmD
import Derived.WalkMore
set_option linter.unusedVariables false
set_option linter.unusedSimpArgs false
namespace Go.Proofs.YtkkjjogbfjahgaaDoor.Sm
open Go Go.Proofs Go.RowKit Go.Proofs.CodBytes Go.Proofs.YtkkjjogbfjahgaaDoorW.PrintWords Go.Proofs.YtkkjjogbfjahgaaDoorW.PrintLast Go.Proofs.YtkkjjogbfjahgaaDoorW.PrintMore Go.Proofs.YtkkjjogbfjahgaaDoor.PSc Go.Proofs.YtkkjjogbfjahgaaDoor.CodSame Go.Proofs.YtkkjjogbfjahgaaDoor.Cur Go.Proofs.YtkkjjogbfjahgaaDoor.Sc
/-- one step, as the reference reads it -/
def refStep (bs : List Int) : RS × Int × List Int × Int :=
  let s := smallOf 5 bs 0
  if s.1 = 0 then (⟨0, (readR (textOf s.2.1 s.2.2).1).1.1, (readR (textOf s.2.1 s.2.2).1).1.2, ⟨#[]⟩, [0, 0, 0, 0]⟩, (readR (textOf s.2.1 s.2.2).1).2, (textOf s.2.1 s.2.2).2)
  else if s.1 = 1 then (⟨1, 0, [0, 0, 0, 0, 0, 0, 0, 0, 0, 0, 0], strOfNums (textOf s.2.1 s.2.2).1, [0, 0, 0, 0]⟩, 0, (textOf s.2.1 s.2.2).2)
  else if s.1 = 2 then (⟨2, 0, [0, 0, 0, 0, 0, 0, 0, 0, 0, 0, 0], ⟨#[]⟩, [(Cur.intOf s.2.1 s.2.2).1, 0, 0, 0]⟩, 0, (Cur.intOf s.2.1 s.2.2).2)
  else if s.1 = 3 then (⟨3, 0, [0, 0, 0, 0, 0, 0, 0, 0, 0, 0, 0], ⟨#[]⟩, (intsN 4 s.2.1 s.2.2).1⟩, 0, (intsN 4 s.2.1 s.2.2).2)
  else (⟨s.1, 0, [0, 0, 0, 0, 0, 0, 0, 0, 0, 0, 0], ⟨#[]⟩, [0, 0, 0, 0]⟩, 0, s.2)
theorem readR_len (t : List Int) : (readR t).1.2.length = 11 := by
  have h := intsN_len 12 t 0
  unfold readR
  dsimp only
  split
  · simp [h]
  · rfl
def refReadS : Nat → List Int → List RS → Option (List RS × Int)
  | 0, _, _ => none
  | n + 1, bs, out => if bs.length = 0 then some (out, 0) else if (refStep bs).2.2.2 = 0 ∧ (refStep bs).2.1 = 0 ∧ rightRS (refStep bs).1 = true then refReadS n (refStep bs).2.2.1 (out ++ [(refStep bs).1]) else some (out, 11)
def toS35 (s : RS) : S35 := ⟨s.kind, ⟨s.mkd, ⟨s.F.getD 0 0, s.F.getD 1 0, s.F.getD 2 0, s.F.getD 3 0, s.F.getD 4 0, s.F.getD 5 0, s.F.getD 6 0, s.F.getD 7 0, s.F.getD 8 0, s.F.getD 9 0, s.F.getD 10 0⟩⟩, s.line, ⟨s.N.getD 0 0, s.N.getD 1 0, s.N.getD 2 0, s.N.getD 3 0⟩⟩
theorem isEs (bs : List Int) : (strOfNums bs).toList.isEmpty = decide (bs.length = 0) := by rw [isE, str_size]
def lenRef (W : World) (g : Nat) : Nat := match W.cell? ⟨g, 0, none⟩ with
  | some (.string s) => s.size
  | _ => 0
theorem lenRef_eq {w W : World} {l : Bs} {m g k : Nat} {bs : List Int} {e : Int} {t : TypeId} (h : HG m w l W) (hk : l[k]? = some (g, cuA bs e, t)) : lenRef W g = bs.length := by
  have : W.cell? ⟨g, 0, none⟩ = some (.string (strOfNums bs)) := (blk_cell (h.get hk) 0).trans rfl
  unfold lenRef
  rw [this]
  exact str_size bs
theorem away {g6 gc n : Nat} {c1 c2 : Array Value} {t1 t2 : TypeId} (h6 : n ≤ g6) : ∀ x ∈ [(g6, c1, t1), (gc, c2, t2)], ∀ k, k ≠ gc → k < n → x.1 ≠ k := by
  intro x hx k hk hl
  rcases List.mem_cons.1 hx with rfl | hx
  · simp only; omega
  · obtain rfl := List.mem_singleton.1 hx; exact Ne.symm hk
theorem info35 : (Tryd.prog.info? 35).map (fun i => (i.zero, i.size, i.bytes)) = some (some (.agg #[.int .i64 0, .int .i64 0, .int .i64 0, .int .i64 0, .int .i64 0, .int .i64 0, .int .i64 0, .int .i64 0, .int .i64 0, .int .i64 0, .int .i64 0, .int .i64 0, .int .i64 0, .string ⟨#[]⟩, .int .i64 0, .int .i64 0, .int .i64 0, .int .i64 0]), 18, 152) := by kernel_rfl
set_option maxRecDepth 100000 in
set_option maxHeartbeats 4000000 in
theorem read28_c (bs0 : List Int) (hB : By bs0) (w : World) (R : List RS × Int) (hR : (if 65536 < bs0.length then some ([], 3) else refReadS (bs0.length + 1) bs0 []) = some R) : Calls Tryd.prog 7 #[.string (strOfNums bs0)] w fun e w' => ∃ v, e = .returned (.tuple #[v, .int .i64 R.2]) ∧ Kd.R k35 35 w' w.heap.size (fun _ => True) v (R.1.map toS35) ∧ Below w.heap.size w w' := by
  have hu35 := Tryd.underlying35
  have hu33 := Tryd.underlying33
  have hu56 := Tryd.underlying56
  have hsz : (strOfNums bs0).size = bs0.length := str_size bs0
  by_cases hbig : 65536 < bs0.length
  · rw [if_pos hbig] at hR
    have b1 : decide ((bs0.length : Int) > 65536) = true := decide_eq_true (by omega)
    obtain rfl := Option.some.inj hR
    clear hR hbig hB
    go_enter Tryd.func7, Tryd.ntmps7
    go_wp2
    go_ret2
    exact ⟨_, rfl, Kd.R_nil _ _ _ _ _, Below.refl _ _⟩
  · rw [if_neg hbig] at hR
    have b1 : decide ((bs0.length : Int) > 65536) = false := decide_eq_false (by omega)
    have H := HB.start w
    have HR := Aside0.mk hR
    have HBY := Aside0.mk hB
    have HBG := Aside0.mk hbig
    clear hR hB hbig
    go_enter Tryd.func7, Tryd.ntmps7
    go_wp2_with (first
   | ((with_reducible refine gate_dst (N := 5) rfl ?_); refine hb_alloc rfl rfl H zero56 ?_; intro gc W1 hgc H1; clear H; have H := H1; clear H1)
   | ((with_reducible refine gate_load rfl ?_); first
      | refine hb_load rfl rfl H rfl (k := 0) rfl Tryd.underlying3 rfl rfl ?_
      | refine hb_load rfl rfl H rfl (k := 0) rfl Tryd.underlying9 rfl rfl ?_
      | refine hb_loadRow rfl rfl H rfl (k := 0) rfl Tryd.underlying56 rfl (by kernel_rfl) ?_
      | refine hb_load rfl rfl H rfl (k := 1) rfl Tryd.underlying3 rfl rfl ?_
      | refine hb_load rfl rfl H rfl (k := 1) rfl Tryd.underlying9 rfl rfl ?_
      | refine hb_loadRow rfl rfl H rfl (k := 1) rfl Tryd.underlying56 rfl (by kernel_rfl) ?_)
   | ((with_reducible refine gate_st rfl ?_); (first
      | refine hb_storeRow rfl rfl rfl H rfl (k := 0) rfl rfl (by kernel_rfl) rfl (by rfl) ?_
      | refine hb_storeRow rfl rfl rfl H rfl (k := 1) rfl rfl (by kernel_rfl) rfl (by rfl) ?_); intro W1 H1; clear H; simp only [List.setIfInBounds_toArray, List.set_cons_zero, List.set_cons_succ] at H1; have H := H1; clear H1))
    try go_frame
    go_loopw [4] (fun v4 wr => ∃ n bs out, out.length + bs.length ≤ 65536 ∧ refReadS n bs out = some R ∧ By bs ∧ HB w [(gc, cuA bs 0, 56)] wr ∧ Kd.R k35 35 wr w.heap.size (fun k => k ≠ gc) v4 (out.map toS35)) (fun v4 wr => lenRef wr gc)
    case atStart => exact ⟨bs0.length + 1, bs0, [], by have := HBG.out; simp; omega, HR.out, HBY.out, H, Kd.R_nil _ _ _ _ _⟩
    case round =>
      clear H HR HBY
      obtain ⟨n, bs, out, hlen, hg, hby, H, hR⟩ := hrel
      obtain ⟨m, rfl⟩ : ∃ m, n = m + 1 := ⟨n - 1, by cases n with | zero => simp [refReadS] at hg | succ n => simp⟩
      rw [refReadS] at hg
      by_cases hz : bs.length = 0
      · rw [if_pos hz] at hg
        obtain rfl := Option.some.inj hg
        have h1 : (strOfNums bs).toList.isEmpty = true := by rw [isEs]; simp [hz]
        have h2 : (strOfNums bs).toList = [] := by simpa using h1
        have HRR := Aside0.mk hR
        clear hR hg hz
        go_wp2_with (first
   | ((with_reducible refine gate_dst (N := 5) rfl ?_); refine hb_alloc rfl rfl H zero56 ?_; intro gc W1 hgc H1; clear H; have H := H1; clear H1)
   | ((with_reducible refine gate_load rfl ?_); first
      | refine hb_load rfl rfl H rfl (k := 0) rfl Tryd.underlying3 rfl rfl ?_
      | refine hb_load rfl rfl H rfl (k := 0) rfl Tryd.underlying9 rfl rfl ?_
      | refine hb_loadRow rfl rfl H rfl (k := 0) rfl Tryd.underlying56 rfl (by kernel_rfl) ?_
      | refine hb_load rfl rfl H rfl (k := 1) rfl Tryd.underlying3 rfl rfl ?_
      | refine hb_load rfl rfl H rfl (k := 1) rfl Tryd.underlying9 rfl rfl ?_
      | refine hb_loadRow rfl rfl H rfl (k := 1) rfl Tryd.underlying56 rfl (by kernel_rfl) ?_)
   | ((with_reducible refine gate_st rfl ?_); (first
      | refine hb_storeRow rfl rfl rfl H rfl (k := 0) rfl rfl (by kernel_rfl) rfl (by rfl) ?_
      | refine hb_storeRow rfl rfl rfl H rfl (k := 1) rfl rfl (by kernel_rfl) rfl (by rfl) ?_); intro W1 H1; clear H; simp only [List.setIfInBounds_toArray, List.set_cons_zero, List.set_cons_succ] at H1; have H := H1; clear H1))
        go_ret2
        exact ⟨_, rfl, Kd.R_mono HRR.out (fun _ _ => trivial), H.below⟩
      · rw [if_neg hz] at hg
        have h1 : (strOfNums bs).toList.isEmpty = false := by rw [isEs]; simp [hz]
        have h2 : ¬ (strOfNums bs).toList = [] := by simpa using h1
        have C19 := refSmall_c bs 0 5 hby
        obtain ⟨kd, b1, e1, hs⟩ : ∃ kd b1 e1, smallOf 5 bs 0 = (kd, b1, e1) := ⟨_, _, _, rfl⟩
        have hB1 : By b1 := by have := hby.small 5 0; rw [hs] at this; exact this
        simp only [hs] at C19
        have HS := Aside0.mk hs
        have HC19 := Aside0.mk C19
        have HB1 := Aside0.mk hB1
        have HBY := Aside0.mk hby
        have HRR := Aside0.mk hR
        have HG := Aside0.mk hg
        have HZ := Aside0.mk hz
        have HN := H.rebase
        have HWB := H.below
        clear C19 hs hB1 hby hR hg hz H
        have HW0 := Aside0.mk HWB
        clear HWB
        have H := HN
        have HLT := Aside0.mk (smallOf_lt (bs := bs))
        rcases (show kd = 0 ∨ kd = 1 ∨ kd = 2 ∨ kd = 3 ∨ ((kd == 0) = false ∧ (kd == 1) = false ∧ (kd == 2) = false ∧ (kd == 3) = false) by simp only [beq_eq_false_iff_ne]; omega) with rfl | rfl | rfl | rfl | ⟨n0, n1, n2, n3⟩
        · have C20 := refText_c b1 e1 HB1.out
          have hT := HB1.out.got e1
          have hT2 := HB1.out.text e1
          have hle := textOf_le b1 e1
          have her := textOf_err (bs := b1) (e := e1)
          obtain ⟨t, b2, e2, ht⟩ : ∃ t b2 e2, textOf b1 e1 = (t, b2, e2) := ⟨_, _, _, rfl⟩
          rw [ht] at hT hT2 hle her
          simp only [ht] at C20
          have C21 := read22_c t hT
          have hl := readR_len t
          obtain ⟨k, F, ec, hr⟩ : ∃ k F ec, readR t = ((k, F), ec) := ⟨_, _, _, rfl⟩
          rw [hr] at hl
          simp only [hr] at C21
          obtain ⟨f0, f1, f2, f3, f4, f5, f6, f7, f8, f9, f10, rfl⟩ := list11 F hl
          have HX : Aside0 (refStep bs = (⟨0, k, [f0, f1, f2, f3, f4, f5, f6, f7, f8, f9, f10], (⟨#[]⟩ : ByteArray), [0, 0, 0, 0]⟩, ec, b2, e2)) := by
            constructor; unfold refStep; simp only [HS.out, ht, hr, if_true]
          have HLE : Aside0 (e2 = 0 → b2.length < bs.length) := ⟨fun h0 => by
            have h1 : e1 = 0 := Classical.byContradiction fun hc => her hc h0
            have := HLT.out; rw [HS.out] at this; have := this h1; dsimp only at this hle; omega⟩
          have HC20 := Aside0.mk C20
          have HC21 := Aside0.mk C21
          have HB2 := Aside0.mk hT2
          clear C20 C21 hT hT2 ht hr hl hle her
          obtain ⟨r, hr⟩ : ∃ r, rightRS ⟨0, k, [f0, f1, f2, f3, f4, f5, f6, f7, f8, f9, f10], (⟨#[]⟩ : ByteArray), [0, 0, 0, 0]⟩ = r := ⟨_, rfl⟩
          have C11 := right28_c ⟨0, k, [f0, f1, f2, f3, f4, f5, f6, f7, f8, f9, f10], (⟨#[]⟩ : ByteArray), [0, 0, 0, 0]⟩ rfl rfl (by show (0:Nat) < _; omega)
          rw [hr] at C11
          have HC11 : Aside0 (∀ w, Calls Tryd.prog 11 #[.agg #[.int .i64 0, .int .i64 k, .int .i64 f0, .int .i64 f1, .int .i64 f2, .int .i64 f3, .int .i64 f4, .int .i64 f5, .int .i64 f6, .int .i64 f7, .int .i64 f8, .int .i64 f9, .int .i64 f10, .string (⟨#[]⟩ : ByteArray), .int .i64 0, .int .i64 0, .int .i64 0, .int .i64 0]] w fun e w' => e = .returned (.bool r) ∧ Below w.heap.size w w') := ⟨C11⟩
          have HRT := Aside0.mk hr
          have hG := HG.out
          rw [HX.out] at hG
          simp only [hr] at hG
          have HG2 := Aside0.mk hG
          clear HG hr C11 hG
          rcases (show (e2 = 0 ∧ ec = 0 ∧ r = true) ∨ (e2 = 0 ∧ ec = 0 ∧ r = false) ∨ (e2 = 0 ∧ (ec != 0) = true) ∨ (e2 != 0) = true by simp only [bne_iff_ne]; by_cases h : e2 = 0 <;> by_cases h' : ec = 0 <;> cases r <;> simp [h, h']) with ⟨rfl, rfl, rfl⟩ | ⟨rfl, rfl, rfl⟩ | ⟨rfl, hec⟩ | he
          · have hG := HG2.out
            rw [if_pos (by simp)] at hG
            have HGG := Aside0.mk hG
            clear hG HG2
            go_wp2_with (first
   | ((with_reducible refine gate_builtin (b := .append) (xs := #[.tmp 84, .tmp 86]) rfl ?_); at_builtin; refine Kd.R_append k35 (w0 := w) w.heap.size rfl (.tmp 84) (.tmp 86) 27 35 (.agg #[.int .i64 0, .int .i64 0, .int .i64 0, .int .i64 0, .int .i64 0, .int .i64 0, .int .i64 0, .int .i64 0, .int .i64 0, .int .i64 0, .int .i64 0, .int .i64 0, .int .i64 0, .string ⟨#[]⟩, .int .i64 0, .int .i64 0, .int .i64 0, .int .i64 0]) 152 rfl Tryd.underlying27 info35 rfl (by decide) (by omega) u4 (out.map toS35) (toS35 ⟨0, k, [f0, f1, f2, f3, f4, f5, f6, f7, f8, f9, f10], (⟨#[]⟩ : ByteArray), [0, 0, 0, 0]⟩) [.int .i64 0, .int .i64 k, .int .i64 f0, .int .i64 f1, .int .i64 f2, .int .i64 f3, .int .i64 f4, .int .i64 f5, .int .i64 f6, .int .i64 f7, .int .i64 f8, .int .i64 f9, .int .i64 f10, .string (⟨#[]⟩ : ByteArray), .int .i64 0, .int .i64 0, .int .i64 0, .int .i64 0] (fun k => k ≠ gc) (fun _ => False) rfl (by first | (go_simp; done) | (go_simp; rfl)) ?aP (fun _ hk => hk.elim) ?aF ?aO ?aB ?aS ?aL ?_; (case aP => exact k35_mkM _ _ _ (toS35 ⟨0, k, [f0, f1, f2, f3, f4, f5, f6, f7, f8, f9, f10], (⟨#[]⟩ : ByteArray), [0, 0, 0, 0]⟩)); (case aF => exact fun k hk he => by have := H.lt (x := (gc, cuA b2 0, 56)) (by simp); simp only at this; omega); (case aO => exact H.R HRR.out (away hg6)); (case aB => exact HW0.out.trans H.below); (case aS => exact (HW0.out.trans H.below).size); (case aL => rw [List.length_map]; omega); intro v5 w5 hR5 hB5 hg5 hat5)
   | ((with_reducible refine gate_st rfl ?_); refine hb_storePart (t := 32) rfl rfl rfl H rfl (k := 0) rfl rfl (by kernel_rfl) rfl rfl ?_; intro W1 H1; clear H; simp only [List.set_cons_zero, List.set_cons_succ] at H1; simp only [putAt, List.length_cons, List.length_nil, Nat.reduceAdd, List.take_succ_cons, List.take_zero, List.drop_succ_cons, List.drop_zero, List.nil_append, List.cons_append] at H1; have H := H1; clear H1)
   | ((first
      | (with_reducible refine (HC11.out _).mono ?_)
      | (with_reducible refine (HC19.out _).mono ?_)
      | (with_reducible refine (HC20.out _).mono ?_)
      | (with_reducible refine (HC21.out _).mono ?_)
      | (with_reducible refine (HC22.out _).mono ?_)
      | (with_reducible refine (HC23.out _).mono ?_)); rintro ev w2 ⟨rfl, B2⟩; replace H := H.call B2; clear B2)
   | ((with_reducible refine gate_dst (N := 6) rfl ?_); refine hb_alloc rfl rfl H zero35 ?_; intro g6 W1 hg6 H1; clear H; have H := H1; clear H1)
   | ((with_reducible refine gate_load rfl ?_); first
      | refine hb_load rfl rfl H rfl (k := 0) rfl Tryd.underlying3 rfl rfl ?_
      | refine hb_load rfl rfl H rfl (k := 0) rfl Tryd.underlying9 rfl rfl ?_
      | refine hb_loadRow rfl rfl H rfl (k := 0) rfl Tryd.underlying56 rfl (by kernel_rfl) ?_
      | refine hb_loadRow rfl rfl H rfl (k := 0) rfl Tryd.underlying35 rfl (by kernel_rfl) ?_
      | refine hb_load rfl rfl H rfl (k := 1) rfl Tryd.underlying3 rfl rfl ?_
      | refine hb_load rfl rfl H rfl (k := 1) rfl Tryd.underlying9 rfl rfl ?_
      | refine hb_loadRow rfl rfl H rfl (k := 1) rfl Tryd.underlying56 rfl (by kernel_rfl) ?_
      | refine hb_loadRow rfl rfl H rfl (k := 1) rfl Tryd.underlying35 rfl (by kernel_rfl) ?_)
   | ((with_reducible refine gate_st rfl ?_); (first
      | refine hb_storeRow rfl rfl rfl H rfl (k := 0) rfl rfl (by kernel_rfl) rfl (by rfl) ?_
      | refine hb_storeI rfl rfl rfl H rfl (k := 0) rfl rfl (by kernel_rfl) rfl ?_
      | refine hb_storeS rfl rfl rfl H rfl (k := 0) rfl rfl (by kernel_rfl) rfl ?_
      | refine hb_storeRow rfl rfl rfl H rfl (k := 1) rfl rfl (by kernel_rfl) rfl (by rfl) ?_
      | refine hb_storeI rfl rfl rfl H rfl (k := 1) rfl rfl (by kernel_rfl) rfl ?_
      | refine hb_storeS rfl rfl rfl H rfl (k := 1) rfl rfl (by kernel_rfl) rfl ?_); intro W1 H1; clear H; simp only [List.setIfInBounds_toArray, List.set_cons_zero, List.set_cons_succ] at H1; have H := H1; clear H1))
            have hb5 := blk_grown (H.get (k := 1) rfl) hg5 (fun he => (HRR.out.1 gc he.symm) rfl)
            have H5 := HB.mk1 hB5 (HN.ge (k := 0) rfl) hb5
            have hlt := HLE.out (by simp)
            go_roundw
            case rel =>
              refine ⟨m, b2, out ++ [⟨0, k, [f0, f1, f2, f3, f4, f5, f6, f7, f8, f9, f10], (⟨#[]⟩ : ByteArray), [0, 0, 0, 0]⟩], by rw [List.length_append, List.length_singleton]; omega, HGG.out, HB2.out, H5, ?_⟩
              rw [List.map_append]; exact hR5
            case measure => rw [lenRef_eq H5 (k := 0) rfl, lenRef_eq HN (k := 0) rfl]; exact hlt
          · have hG := HG2.out
            rw [if_neg (by simp)] at hG
            obtain rfl := Option.some.inj hG
            clear hG HG2
            go_wp2_with (first
   | ((with_reducible refine gate_st rfl ?_); refine hb_storePart (t := 32) rfl rfl rfl H rfl (k := 0) rfl rfl (by kernel_rfl) rfl rfl ?_; intro W1 H1; clear H; simp only [List.set_cons_zero, List.set_cons_succ] at H1; simp only [putAt, List.length_cons, List.length_nil, Nat.reduceAdd, List.take_succ_cons, List.take_zero, List.drop_succ_cons, List.drop_zero, List.nil_append, List.cons_append] at H1; have H := H1; clear H1)
   | ((first
      | (with_reducible refine (HC11.out _).mono ?_)
      | (with_reducible refine (HC19.out _).mono ?_)
      | (with_reducible refine (HC20.out _).mono ?_)
      | (with_reducible refine (HC21.out _).mono ?_)
      | (with_reducible refine (HC22.out _).mono ?_)
      | (with_reducible refine (HC23.out _).mono ?_)); rintro ev w2 ⟨rfl, B2⟩; replace H := H.call B2; clear B2)
   | ((with_reducible refine gate_dst (N := 6) rfl ?_); refine hb_alloc rfl rfl H zero35 ?_; intro g6 W1 hg6 H1; clear H; have H := H1; clear H1)
   | ((with_reducible refine gate_load rfl ?_); first
      | refine hb_load rfl rfl H rfl (k := 0) rfl Tryd.underlying3 rfl rfl ?_
      | refine hb_load rfl rfl H rfl (k := 0) rfl Tryd.underlying9 rfl rfl ?_
      | refine hb_loadRow rfl rfl H rfl (k := 0) rfl Tryd.underlying56 rfl (by kernel_rfl) ?_
      | refine hb_loadRow rfl rfl H rfl (k := 0) rfl Tryd.underlying35 rfl (by kernel_rfl) ?_
      | refine hb_load rfl rfl H rfl (k := 1) rfl Tryd.underlying3 rfl rfl ?_
      | refine hb_load rfl rfl H rfl (k := 1) rfl Tryd.underlying9 rfl rfl ?_
      | refine hb_loadRow rfl rfl H rfl (k := 1) rfl Tryd.underlying56 rfl (by kernel_rfl) ?_
      | refine hb_loadRow rfl rfl H rfl (k := 1) rfl Tryd.underlying35 rfl (by kernel_rfl) ?_)
   | ((with_reducible refine gate_st rfl ?_); (first
      | refine hb_storeRow rfl rfl rfl H rfl (k := 0) rfl rfl (by kernel_rfl) rfl (by rfl) ?_
      | refine hb_storeI rfl rfl rfl H rfl (k := 0) rfl rfl (by kernel_rfl) rfl ?_
      | refine hb_storeS rfl rfl rfl H rfl (k := 0) rfl rfl (by kernel_rfl) rfl ?_
      | refine hb_storeRow rfl rfl rfl H rfl (k := 1) rfl rfl (by kernel_rfl) rfl (by rfl) ?_
      | refine hb_storeI rfl rfl rfl H rfl (k := 1) rfl rfl (by kernel_rfl) rfl ?_
      | refine hb_storeS rfl rfl rfl H rfl (k := 1) rfl rfl (by kernel_rfl) rfl ?_); intro W1 H1; clear H; simp only [List.setIfInBounds_toArray, List.set_cons_zero, List.set_cons_succ] at H1; have H := H1; clear H1))
            go_ret2
            exact ⟨_, rfl, Kd.R_mono (H.R HRR.out (away hg6)) (fun _ _ => trivial), HW0.out.trans H.below⟩
          · have hG := HG2.out
            rw [if_neg (by rw [bne_iff_ne] at hec; simp [hec])] at hG
            obtain rfl := Option.some.inj hG
            clear hG HG2
            go_wp2_with (first
   | ((with_reducible refine gate_st rfl ?_); refine hb_storePart (t := 32) rfl rfl rfl H rfl (k := 0) rfl rfl (by kernel_rfl) rfl rfl ?_; intro W1 H1; clear H; simp only [List.set_cons_zero, List.set_cons_succ] at H1; simp only [putAt, List.length_cons, List.length_nil, Nat.reduceAdd, List.take_succ_cons, List.take_zero, List.drop_succ_cons, List.drop_zero, List.nil_append, List.cons_append] at H1; have H := H1; clear H1)
   | ((first
      | (with_reducible refine (HC11.out _).mono ?_)
      | (with_reducible refine (HC19.out _).mono ?_)
      | (with_reducible refine (HC20.out _).mono ?_)
      | (with_reducible refine (HC21.out _).mono ?_)
      | (with_reducible refine (HC22.out _).mono ?_)
      | (with_reducible refine (HC23.out _).mono ?_)); rintro ev w2 ⟨rfl, B2⟩; replace H := H.call B2; clear B2)
   | ((with_reducible refine gate_dst (N := 6) rfl ?_); refine hb_alloc rfl rfl H zero35 ?_; intro g6 W1 hg6 H1; clear H; have H := H1; clear H1)
   | ((with_reducible refine gate_load rfl ?_); first
      | refine hb_load rfl rfl H rfl (k := 0) rfl Tryd.underlying3 rfl rfl ?_
      | refine hb_load rfl rfl H rfl (k := 0) rfl Tryd.underlying9 rfl rfl ?_
      | refine hb_loadRow rfl rfl H rfl (k := 0) rfl Tryd.underlying56 rfl (by kernel_rfl) ?_
      | refine hb_loadRow rfl rfl H rfl (k := 0) rfl Tryd.underlying35 rfl (by kernel_rfl) ?_
      | refine hb_load rfl rfl H rfl (k := 1) rfl Tryd.underlying3 rfl rfl ?_
      | refine hb_load rfl rfl H rfl (k := 1) rfl Tryd.underlying9 rfl rfl ?_
      | refine hb_loadRow rfl rfl H rfl (k := 1) rfl Tryd.underlying56 rfl (by kernel_rfl) ?_
      | refine hb_loadRow rfl rfl H rfl (k := 1) rfl Tryd.underlying35 rfl (by kernel_rfl) ?_)
   | ((with_reducible refine gate_st rfl ?_); (first
      | refine hb_storeRow rfl rfl rfl H rfl (k := 0) rfl rfl (by kernel_rfl) rfl (by rfl) ?_
      | refine hb_storeI rfl rfl rfl H rfl (k := 0) rfl rfl (by kernel_rfl) rfl ?_
      | refine hb_storeS rfl rfl rfl H rfl (k := 0) rfl rfl (by kernel_rfl) rfl ?_
      | refine hb_storeRow rfl rfl rfl H rfl (k := 1) rfl rfl (by kernel_rfl) rfl (by rfl) ?_
      | refine hb_storeI rfl rfl rfl H rfl (k := 1) rfl rfl (by kernel_rfl) rfl ?_
      | refine hb_storeS rfl rfl rfl H rfl (k := 1) rfl rfl (by kernel_rfl) rfl ?_); intro W1 H1; clear H; simp only [List.setIfInBounds_toArray, List.set_cons_zero, List.set_cons_succ] at H1; have H := H1; clear H1))
            go_ret2
            exact ⟨_, rfl, Kd.R_mono (H.R HRR.out (away hg6)) (fun _ _ => trivial), HW0.out.trans H.below⟩
          · have hG := HG2.out
            rw [if_neg (by rw [bne_iff_ne] at he; simp [he])] at hG
            obtain rfl := Option.some.inj hG
            clear hG HG2
            go_wp2_with (first
   | ((with_reducible refine gate_st rfl ?_); refine hb_storePart (t := 32) rfl rfl rfl H rfl (k := 0) rfl rfl (by kernel_rfl) rfl rfl ?_; intro W1 H1; clear H; simp only [List.set_cons_zero, List.set_cons_succ] at H1; simp only [putAt, List.length_cons, List.length_nil, Nat.reduceAdd, List.take_succ_cons, List.take_zero, List.drop_succ_cons, List.drop_zero, List.nil_append, List.cons_append] at H1; have H := H1; clear H1)
   | ((first
      | (with_reducible refine (HC11.out _).mono ?_)
      | (with_reducible refine (HC19.out _).mono ?_)
      | (with_reducible refine (HC20.out _).mono ?_)
      | (with_reducible refine (HC21.out _).mono ?_)
      | (with_reducible refine (HC22.out _).mono ?_)
      | (with_reducible refine (HC23.out _).mono ?_)); rintro ev w2 ⟨rfl, B2⟩; replace H := H.call B2; clear B2)
   | ((with_reducible refine gate_dst (N := 6) rfl ?_); refine hb_alloc rfl rfl H zero35 ?_; intro g6 W1 hg6 H1; clear H; have H := H1; clear H1)
   | ((with_reducible refine gate_load rfl ?_); first
      | refine hb_load rfl rfl H rfl (k := 0) rfl Tryd.underlying3 rfl rfl ?_
      | refine hb_load rfl rfl H rfl (k := 0) rfl Tryd.underlying9 rfl rfl ?_
      | refine hb_loadRow rfl rfl H rfl (k := 0) rfl Tryd.underlying56 rfl (by kernel_rfl) ?_
      | refine hb_loadRow rfl rfl H rfl (k := 0) rfl Tryd.underlying35 rfl (by kernel_rfl) ?_
      | refine hb_load rfl rfl H rfl (k := 1) rfl Tryd.underlying3 rfl rfl ?_
      | refine hb_load rfl rfl H rfl (k := 1) rfl Tryd.underlying9 rfl rfl ?_
      | refine hb_loadRow rfl rfl H rfl (k := 1) rfl Tryd.underlying56 rfl (by kernel_rfl) ?_
      | refine hb_loadRow rfl rfl H rfl (k := 1) rfl Tryd.underlying35 rfl (by kernel_rfl) ?_)
   | ((with_reducible refine gate_st rfl ?_); (first
      | refine hb_storeRow rfl rfl rfl H rfl (k := 0) rfl rfl (by kernel_rfl) rfl (by rfl) ?_
      | refine hb_storeI rfl rfl rfl H rfl (k := 0) rfl rfl (by kernel_rfl) rfl ?_
      | refine hb_storeS rfl rfl rfl H rfl (k := 0) rfl rfl (by kernel_rfl) rfl ?_
      | refine hb_storeRow rfl rfl rfl H rfl (k := 1) rfl rfl (by kernel_rfl) rfl (by rfl) ?_
      | refine hb_storeI rfl rfl rfl H rfl (k := 1) rfl rfl (by kernel_rfl) rfl ?_
      | refine hb_storeS rfl rfl rfl H rfl (k := 1) rfl rfl (by kernel_rfl) rfl ?_); intro W1 H1; clear H; simp only [List.setIfInBounds_toArray, List.set_cons_zero, List.set_cons_succ] at H1; have H := H1; clear H1))
            go_ret2
            exact ⟨_, rfl, Kd.R_mono (H.R HRR.out (away hg6)) (fun _ _ => trivial), HW0.out.trans H.below⟩
        · have C20 := refText_c b1 e1 HB1.out
          have hT := HB1.out.got e1
          have hT2 := HB1.out.text e1
          have hle := textOf_le b1 e1
          have her := textOf_err (bs := b1) (e := e1)
          have htl := textOf_len b1 e1
          obtain ⟨t, b2, e2, ht⟩ : ∃ t b2 e2, textOf b1 e1 = (t, b2, e2) := ⟨_, _, _, rfl⟩
          rw [ht] at hT hT2 hle her htl
          simp only [ht] at C20
          have htz : (strOfNums t).size < 9223372036854775807 := by rw [str_size]; simp only at htl; omega
          have HX : Aside0 (refStep bs = (⟨1, 0, [0, 0, 0, 0, 0, 0, 0, 0, 0, 0, 0], (strOfNums t), [0, 0, 0, 0]⟩, 0, b2, e2)) := by
            constructor; unfold refStep; simp only [HS.out, ht]; rfl
          have HLE : Aside0 (e2 = 0 → b2.length < bs.length) := ⟨fun h0 => by
            have h1 : e1 = 0 := Classical.byContradiction fun hc => her hc h0
            have := HLT.out; rw [HS.out] at this; have := this h1; dsimp only at this hle; omega⟩
          have HC20 := Aside0.mk C20
          have HB2 := Aside0.mk hT2
          have HTZ := Aside0.mk htz
          clear C20 hT hT2 ht hle her htl htz
          obtain ⟨r, hr⟩ : ∃ r, rightRS ⟨1, 0, [0, 0, 0, 0, 0, 0, 0, 0, 0, 0, 0], (strOfNums t), [0, 0, 0, 0]⟩ = r := ⟨_, rfl⟩
          have C11 := right28_c ⟨1, 0, [0, 0, 0, 0, 0, 0, 0, 0, 0, 0, 0], (strOfNums t), [0, 0, 0, 0]⟩ rfl rfl (HTZ.out)
          rw [hr] at C11
          have HC11 : Aside0 (∀ w, Calls Tryd.prog 11 #[.agg #[.int .i64 1, .int .i64 0, .int .i64 0, .int .i64 0, .int .i64 0, .int .i64 0, .int .i64 0, .int .i64 0, .int .i64 0, .int .i64 0, .int .i64 0, .int .i64 0, .int .i64 0, .string (strOfNums t), .int .i64 0, .int .i64 0, .int .i64 0, .int .i64 0]] w fun e w' => e = .returned (.bool r) ∧ Below w.heap.size w w') := ⟨C11⟩
          have HRT := Aside0.mk hr
          have hG := HG.out
          rw [HX.out] at hG
          simp only [hr] at hG
          have HG2 := Aside0.mk hG
          clear HG hr C11 hG
          rcases (show (e2 = 0 ∧ 0 = 0 ∧ r = true) ∨ (e2 = 0 ∧ 0 = 0 ∧ r = false) ∨ (e2 = 0 ∧ (0 != 0) = true) ∨ (e2 != 0) = true by simp only [bne_iff_ne]; by_cases h : e2 = 0 <;> by_cases h' : 0 = 0 <;> cases r <;> simp [h, h']) with ⟨rfl, -, rfl⟩ | ⟨rfl, -, rfl⟩ | ⟨rfl, hec⟩ | he
          · have hG := HG2.out
            rw [if_pos (by simp)] at hG
            have HGG := Aside0.mk hG
            clear hG HG2
            go_wp2_with (first
   | ((with_reducible refine gate_builtin (b := .append) (xs := #[.tmp 84, .tmp 86]) rfl ?_); at_builtin; refine Kd.R_append k35 (w0 := w) w.heap.size rfl (.tmp 84) (.tmp 86) 27 35 (.agg #[.int .i64 0, .int .i64 0, .int .i64 0, .int .i64 0, .int .i64 0, .int .i64 0, .int .i64 0, .int .i64 0, .int .i64 0, .int .i64 0, .int .i64 0, .int .i64 0, .int .i64 0, .string ⟨#[]⟩, .int .i64 0, .int .i64 0, .int .i64 0, .int .i64 0]) 152 rfl Tryd.underlying27 info35 rfl (by decide) (by omega) u4 (out.map toS35) (toS35 ⟨1, 0, [0, 0, 0, 0, 0, 0, 0, 0, 0, 0, 0], (strOfNums t), [0, 0, 0, 0]⟩) [.int .i64 1, .int .i64 0, .int .i64 0, .int .i64 0, .int .i64 0, .int .i64 0, .int .i64 0, .int .i64 0, .int .i64 0, .int .i64 0, .int .i64 0, .int .i64 0, .int .i64 0, .string (strOfNums t), .int .i64 0, .int .i64 0, .int .i64 0, .int .i64 0] (fun k => k ≠ gc) (fun _ => False) rfl (by first | (go_simp; done) | (go_simp; rfl)) ?aP (fun _ hk => hk.elim) ?aF ?aO ?aB ?aS ?aL ?_; (case aP => exact k35_mkM _ _ _ (toS35 ⟨1, 0, [0, 0, 0, 0, 0, 0, 0, 0, 0, 0, 0], (strOfNums t), [0, 0, 0, 0]⟩)); (case aF => exact fun k hk he => by have := H.lt (x := (gc, cuA b2 0, 56)) (by simp); simp only at this; omega); (case aO => exact H.R HRR.out (away hg6)); (case aB => exact HW0.out.trans H.below); (case aS => exact (HW0.out.trans H.below).size); (case aL => rw [List.length_map]; omega); intro v5 w5 hR5 hB5 hg5 hat5)
   | ((with_reducible refine gate_st rfl ?_); refine hb_storePart (t := 32) rfl rfl rfl H rfl (k := 0) rfl rfl (by kernel_rfl) rfl rfl ?_; intro W1 H1; clear H; simp only [List.set_cons_zero, List.set_cons_succ] at H1; simp only [putAt, List.length_cons, List.length_nil, Nat.reduceAdd, List.take_succ_cons, List.take_zero, List.drop_succ_cons, List.drop_zero, List.nil_append, List.cons_append] at H1; have H := H1; clear H1)
   | ((first
      | (with_reducible refine (HC11.out _).mono ?_)
      | (with_reducible refine (HC19.out _).mono ?_)
      | (with_reducible refine (HC20.out _).mono ?_)
      | (with_reducible refine (HC21.out _).mono ?_)
      | (with_reducible refine (HC22.out _).mono ?_)
      | (with_reducible refine (HC23.out _).mono ?_)); rintro ev w2 ⟨rfl, B2⟩; replace H := H.call B2; clear B2)
   | ((with_reducible refine gate_dst (N := 6) rfl ?_); refine hb_alloc rfl rfl H zero35 ?_; intro g6 W1 hg6 H1; clear H; have H := H1; clear H1)
   | ((with_reducible refine gate_load rfl ?_); first
      | refine hb_load rfl rfl H rfl (k := 0) rfl Tryd.underlying3 rfl rfl ?_
      | refine hb_load rfl rfl H rfl (k := 0) rfl Tryd.underlying9 rfl rfl ?_
      | refine hb_loadRow rfl rfl H rfl (k := 0) rfl Tryd.underlying56 rfl (by kernel_rfl) ?_
      | refine hb_loadRow rfl rfl H rfl (k := 0) rfl Tryd.underlying35 rfl (by kernel_rfl) ?_
      | refine hb_load rfl rfl H rfl (k := 1) rfl Tryd.underlying3 rfl rfl ?_
      | refine hb_load rfl rfl H rfl (k := 1) rfl Tryd.underlying9 rfl rfl ?_
      | refine hb_loadRow rfl rfl H rfl (k := 1) rfl Tryd.underlying56 rfl (by kernel_rfl) ?_
      | refine hb_loadRow rfl rfl H rfl (k := 1) rfl Tryd.underlying35 rfl (by kernel_rfl) ?_)
   | ((with_reducible refine gate_st rfl ?_); (first
      | refine hb_storeRow rfl rfl rfl H rfl (k := 0) rfl rfl (by kernel_rfl) rfl (by rfl) ?_
      | refine hb_storeI rfl rfl rfl H rfl (k := 0) rfl rfl (by kernel_rfl) rfl ?_
      | refine hb_storeS rfl rfl rfl H rfl (k := 0) rfl rfl (by kernel_rfl) rfl ?_
      | refine hb_storeRow rfl rfl rfl H rfl (k := 1) rfl rfl (by kernel_rfl) rfl (by rfl) ?_
      | refine hb_storeI rfl rfl rfl H rfl (k := 1) rfl rfl (by kernel_rfl) rfl ?_
      | refine hb_storeS rfl rfl rfl H rfl (k := 1) rfl rfl (by kernel_rfl) rfl ?_); intro W1 H1; clear H; simp only [List.setIfInBounds_toArray, List.set_cons_zero, List.set_cons_succ] at H1; have H := H1; clear H1))
            have hb5 := blk_grown (H.get (k := 1) rfl) hg5 (fun he => (HRR.out.1 gc he.symm) rfl)
            have H5 := HB.mk1 hB5 (HN.ge (k := 0) rfl) hb5
            have hlt := HLE.out (by simp)
            go_roundw
            case rel =>
              refine ⟨m, b2, out ++ [⟨1, 0, [0, 0, 0, 0, 0, 0, 0, 0, 0, 0, 0], (strOfNums t), [0, 0, 0, 0]⟩], by rw [List.length_append, List.length_singleton]; omega, HGG.out, HB2.out, H5, ?_⟩
              rw [List.map_append]; exact hR5
            case measure => rw [lenRef_eq H5 (k := 0) rfl, lenRef_eq HN (k := 0) rfl]; exact hlt
          · have hG := HG2.out
            rw [if_neg (by simp)] at hG
            obtain rfl := Option.some.inj hG
            clear hG HG2
            go_wp2_with (first
   | ((with_reducible refine gate_st rfl ?_); refine hb_storePart (t := 32) rfl rfl rfl H rfl (k := 0) rfl rfl (by kernel_rfl) rfl rfl ?_; intro W1 H1; clear H; simp only [List.set_cons_zero, List.set_cons_succ] at H1; simp only [putAt, List.length_cons, List.length_nil, Nat.reduceAdd, List.take_succ_cons, List.take_zero, List.drop_succ_cons, List.drop_zero, List.nil_append, List.cons_append] at H1; have H := H1; clear H1)
   | ((first
      | (with_reducible refine (HC11.out _).mono ?_)
      | (with_reducible refine (HC19.out _).mono ?_)
      | (with_reducible refine (HC20.out _).mono ?_)
      | (with_reducible refine (HC21.out _).mono ?_)
      | (with_reducible refine (HC22.out _).mono ?_)
      | (with_reducible refine (HC23.out _).mono ?_)); rintro ev w2 ⟨rfl, B2⟩; replace H := H.call B2; clear B2)
   | ((with_reducible refine gate_dst (N := 6) rfl ?_); refine hb_alloc rfl rfl H zero35 ?_; intro g6 W1 hg6 H1; clear H; have H := H1; clear H1)
   | ((with_reducible refine gate_load rfl ?_); first
      | refine hb_load rfl rfl H rfl (k := 0) rfl Tryd.underlying3 rfl rfl ?_
      | refine hb_load rfl rfl H rfl (k := 0) rfl Tryd.underlying9 rfl rfl ?_
      | refine hb_loadRow rfl rfl H rfl (k := 0) rfl Tryd.underlying56 rfl (by kernel_rfl) ?_
      | refine hb_loadRow rfl rfl H rfl (k := 0) rfl Tryd.underlying35 rfl (by kernel_rfl) ?_
      | refine hb_load rfl rfl H rfl (k := 1) rfl Tryd.underlying3 rfl rfl ?_
      | refine hb_load rfl rfl H rfl (k := 1) rfl Tryd.underlying9 rfl rfl ?_
      | refine hb_loadRow rfl rfl H rfl (k := 1) rfl Tryd.underlying56 rfl (by kernel_rfl) ?_
      | refine hb_loadRow rfl rfl H rfl (k := 1) rfl Tryd.underlying35 rfl (by kernel_rfl) ?_)
   | ((with_reducible refine gate_st rfl ?_); (first
      | refine hb_storeRow rfl rfl rfl H rfl (k := 0) rfl rfl (by kernel_rfl) rfl (by rfl) ?_
      | refine hb_storeI rfl rfl rfl H rfl (k := 0) rfl rfl (by kernel_rfl) rfl ?_
      | refine hb_storeS rfl rfl rfl H rfl (k := 0) rfl rfl (by kernel_rfl) rfl ?_
      | refine hb_storeRow rfl rfl rfl H rfl (k := 1) rfl rfl (by kernel_rfl) rfl (by rfl) ?_
      | refine hb_storeI rfl rfl rfl H rfl (k := 1) rfl rfl (by kernel_rfl) rfl ?_
      | refine hb_storeS rfl rfl rfl H rfl (k := 1) rfl rfl (by kernel_rfl) rfl ?_); intro W1 H1; clear H; simp only [List.setIfInBounds_toArray, List.set_cons_zero, List.set_cons_succ] at H1; have H := H1; clear H1))
            go_ret2
            exact ⟨_, rfl, Kd.R_mono (H.R HRR.out (away hg6)) (fun _ _ => trivial), HW0.out.trans H.below⟩
          · simp at hec
          · have hG := HG2.out
            rw [if_neg (by rw [bne_iff_ne] at he; simp [he])] at hG
            obtain rfl := Option.some.inj hG
            clear hG HG2
            go_wp2_with (first
   | ((with_reducible refine gate_st rfl ?_); refine hb_storePart (t := 32) rfl rfl rfl H rfl (k := 0) rfl rfl (by kernel_rfl) rfl rfl ?_; intro W1 H1; clear H; simp only [List.set_cons_zero, List.set_cons_succ] at H1; simp only [putAt, List.length_cons, List.length_nil, Nat.reduceAdd, List.take_succ_cons, List.take_zero, List.drop_succ_cons, List.drop_zero, List.nil_append, List.cons_append] at H1; have H := H1; clear H1)
   | ((first
      | (with_reducible refine (HC11.out _).mono ?_)
      | (with_reducible refine (HC19.out _).mono ?_)
      | (with_reducible refine (HC20.out _).mono ?_)
      | (with_reducible refine (HC21.out _).mono ?_)
      | (with_reducible refine (HC22.out _).mono ?_)
      | (with_reducible refine (HC23.out _).mono ?_)); rintro ev w2 ⟨rfl, B2⟩; replace H := H.call B2; clear B2)
   | ((with_reducible refine gate_dst (N := 6) rfl ?_); refine hb_alloc rfl rfl H zero35 ?_; intro g6 W1 hg6 H1; clear H; have H := H1; clear H1)
   | ((with_reducible refine gate_load rfl ?_); first
      | refine hb_load rfl rfl H rfl (k := 0) rfl Tryd.underlying3 rfl rfl ?_
      | refine hb_load rfl rfl H rfl (k := 0) rfl Tryd.underlying9 rfl rfl ?_
      | refine hb_loadRow rfl rfl H rfl (k := 0) rfl Tryd.underlying56 rfl (by kernel_rfl) ?_
      | refine hb_loadRow rfl rfl H rfl (k := 0) rfl Tryd.underlying35 rfl (by kernel_rfl) ?_
      | refine hb_load rfl rfl H rfl (k := 1) rfl Tryd.underlying3 rfl rfl ?_
      | refine hb_load rfl rfl H rfl (k := 1) rfl Tryd.underlying9 rfl rfl ?_
      | refine hb_loadRow rfl rfl H rfl (k := 1) rfl Tryd.underlying56 rfl (by kernel_rfl) ?_
      | refine hb_loadRow rfl rfl H rfl (k := 1) rfl Tryd.underlying35 rfl (by kernel_rfl) ?_)
   | ((with_reducible refine gate_st rfl ?_); (first
      | refine hb_storeRow rfl rfl rfl H rfl (k := 0) rfl rfl (by kernel_rfl) rfl (by rfl) ?_
      | refine hb_storeI rfl rfl rfl H rfl (k := 0) rfl rfl (by kernel_rfl) rfl ?_
      | refine hb_storeS rfl rfl rfl H rfl (k := 0) rfl rfl (by kernel_rfl) rfl ?_
      | refine hb_storeRow rfl rfl rfl H rfl (k := 1) rfl rfl (by kernel_rfl) rfl (by rfl) ?_
      | refine hb_storeI rfl rfl rfl H rfl (k := 1) rfl rfl (by kernel_rfl) rfl ?_
      | refine hb_storeS rfl rfl rfl H rfl (k := 1) rfl rfl (by kernel_rfl) rfl ?_); intro W1 H1; clear H; simp only [List.setIfInBounds_toArray, List.set_cons_zero, List.set_cons_succ] at H1; have H := H1; clear H1))
            go_ret2
            exact ⟨_, rfl, Kd.R_mono (H.R HRR.out (away hg6)) (fun _ _ => trivial), HW0.out.trans H.below⟩
        · have C20 := refInt_c b1 e1 HB1.out
          have hT2 := HB1.out.intOf e1
          have hle := intOf_le b1 e1
          have her : e1 ≠ 0 → (Cur.intOf b1 e1).2.2 ≠ 0 := fun h => by rw [intOf_err h]; exact h
          obtain ⟨v, b2, e2, ht⟩ : ∃ t b2 e2, Cur.intOf b1 e1 = (t, b2, e2) := ⟨_, _, _, rfl⟩
          rw [ht] at hT2 hle her
          simp only [ht] at C20
          have HX : Aside0 (refStep bs = (⟨2, 0, [0, 0, 0, 0, 0, 0, 0, 0, 0, 0, 0], (⟨#[]⟩ : ByteArray), [v, 0, 0, 0]⟩, 0, b2, e2)) := by
            constructor; unfold refStep; simp only [HS.out, ht]; rfl
          have HLE : Aside0 (e2 = 0 → b2.length < bs.length) := ⟨fun h0 => by
            have h1 : e1 = 0 := Classical.byContradiction fun hc => her hc h0
            have := HLT.out; rw [HS.out] at this; have := this h1; dsimp only at this hle; omega⟩
          have HC20 := Aside0.mk C20
          have HB2 := Aside0.mk hT2
          clear C20 hT2 ht hle her
          obtain ⟨r, hr⟩ : ∃ r, rightRS ⟨2, 0, [0, 0, 0, 0, 0, 0, 0, 0, 0, 0, 0], (⟨#[]⟩ : ByteArray), [v, 0, 0, 0]⟩ = r := ⟨_, rfl⟩
          have C11 := right28_c ⟨2, 0, [0, 0, 0, 0, 0, 0, 0, 0, 0, 0, 0], (⟨#[]⟩ : ByteArray), [v, 0, 0, 0]⟩ rfl rfl (by show (0:Nat) < _; omega)
          rw [hr] at C11
          have HC11 : Aside0 (∀ w, Calls Tryd.prog 11 #[.agg #[.int .i64 2, .int .i64 0, .int .i64 0, .int .i64 0, .int .i64 0, .int .i64 0, .int .i64 0, .int .i64 0, .int .i64 0, .int .i64 0, .int .i64 0, .int .i64 0, .int .i64 0, .string (⟨#[]⟩ : ByteArray), .int .i64 v, .int .i64 0, .int .i64 0, .int .i64 0]] w fun e w' => e = .returned (.bool r) ∧ Below w.heap.size w w') := ⟨C11⟩
          have HRT := Aside0.mk hr
          have hG := HG.out
          rw [HX.out] at hG
          simp only [hr] at hG
          have HG2 := Aside0.mk hG
          clear HG hr C11 hG
          rcases (show (e2 = 0 ∧ 0 = 0 ∧ r = true) ∨ (e2 = 0 ∧ 0 = 0 ∧ r = false) ∨ (e2 = 0 ∧ (0 != 0) = true) ∨ (e2 != 0) = true by simp only [bne_iff_ne]; by_cases h : e2 = 0 <;> by_cases h' : 0 = 0 <;> cases r <;> simp [h, h']) with ⟨rfl, -, rfl⟩ | ⟨rfl, -, rfl⟩ | ⟨rfl, hec⟩ | he
          · have hG := HG2.out
            rw [if_pos (by simp)] at hG
            have HGG := Aside0.mk hG
            clear hG HG2
            go_wp2_with (first
   | ((with_reducible refine gate_builtin (b := .append) (xs := #[.tmp 84, .tmp 86]) rfl ?_); at_builtin; refine Kd.R_append k35 (w0 := w) w.heap.size rfl (.tmp 84) (.tmp 86) 27 35 (.agg #[.int .i64 0, .int .i64 0, .int .i64 0, .int .i64 0, .int .i64 0, .int .i64 0, .int .i64 0, .int .i64 0, .int .i64 0, .int .i64 0, .int .i64 0, .int .i64 0, .int .i64 0, .string ⟨#[]⟩, .int .i64 0, .int .i64 0, .int .i64 0, .int .i64 0]) 152 rfl Tryd.underlying27 info35 rfl (by decide) (by omega) u4 (out.map toS35) (toS35 ⟨2, 0, [0, 0, 0, 0, 0, 0, 0, 0, 0, 0, 0], (⟨#[]⟩ : ByteArray), [v, 0, 0, 0]⟩) [.int .i64 2, .int .i64 0, .int .i64 0, .int .i64 0, .int .i64 0, .int .i64 0, .int .i64 0, .int .i64 0, .int .i64 0, .int .i64 0, .int .i64 0, .int .i64 0, .int .i64 0, .string (⟨#[]⟩ : ByteArray), .int .i64 v, .int .i64 0, .int .i64 0, .int .i64 0] (fun k => k ≠ gc) (fun _ => False) rfl (by first | (go_simp; done) | (go_simp; rfl)) ?aP (fun _ hk => hk.elim) ?aF ?aO ?aB ?aS ?aL ?_; (case aP => exact k35_mkM _ _ _ (toS35 ⟨2, 0, [0, 0, 0, 0, 0, 0, 0, 0, 0, 0, 0], (⟨#[]⟩ : ByteArray), [v, 0, 0, 0]⟩)); (case aF => exact fun k hk he => by have := H.lt (x := (gc, cuA b2 0, 56)) (by simp); simp only at this; omega); (case aO => exact H.R HRR.out (away hg6)); (case aB => exact HW0.out.trans H.below); (case aS => exact (HW0.out.trans H.below).size); (case aL => rw [List.length_map]; omega); intro v5 w5 hR5 hB5 hg5 hat5)
   | ((with_reducible refine gate_st rfl ?_); refine hb_storePart (t := 32) rfl rfl rfl H rfl (k := 0) rfl rfl (by kernel_rfl) rfl rfl ?_; intro W1 H1; clear H; simp only [List.set_cons_zero, List.set_cons_succ] at H1; simp only [putAt, List.length_cons, List.length_nil, Nat.reduceAdd, List.take_succ_cons, List.take_zero, List.drop_succ_cons, List.drop_zero, List.nil_append, List.cons_append] at H1; have H := H1; clear H1)
   | ((first
      | (with_reducible refine (HC11.out _).mono ?_)
      | (with_reducible refine (HC19.out _).mono ?_)
      | (with_reducible refine (HC20.out _).mono ?_)
      | (with_reducible refine (HC21.out _).mono ?_)
      | (with_reducible refine (HC22.out _).mono ?_)
      | (with_reducible refine (HC23.out _).mono ?_)); rintro ev w2 ⟨rfl, B2⟩; replace H := H.call B2; clear B2)
   | ((with_reducible refine gate_dst (N := 6) rfl ?_); refine hb_alloc rfl rfl H zero35 ?_; intro g6 W1 hg6 H1; clear H; have H := H1; clear H1)
   | ((with_reducible refine gate_load rfl ?_); first
      | refine hb_load rfl rfl H rfl (k := 0) rfl Tryd.underlying3 rfl rfl ?_
      | refine hb_load rfl rfl H rfl (k := 0) rfl Tryd.underlying9 rfl rfl ?_
      | refine hb_loadRow rfl rfl H rfl (k := 0) rfl Tryd.underlying56 rfl (by kernel_rfl) ?_
      | refine hb_loadRow rfl rfl H rfl (k := 0) rfl Tryd.underlying35 rfl (by kernel_rfl) ?_
      | refine hb_load rfl rfl H rfl (k := 1) rfl Tryd.underlying3 rfl rfl ?_
      | refine hb_load rfl rfl H rfl (k := 1) rfl Tryd.underlying9 rfl rfl ?_
      | refine hb_loadRow rfl rfl H rfl (k := 1) rfl Tryd.underlying56 rfl (by kernel_rfl) ?_
      | refine hb_loadRow rfl rfl H rfl (k := 1) rfl Tryd.underlying35 rfl (by kernel_rfl) ?_)
   | ((with_reducible refine gate_st rfl ?_); (first
      | refine hb_storeRow rfl rfl rfl H rfl (k := 0) rfl rfl (by kernel_rfl) rfl (by rfl) ?_
      | refine hb_storeI rfl rfl rfl H rfl (k := 0) rfl rfl (by kernel_rfl) rfl ?_
      | refine hb_storeS rfl rfl rfl H rfl (k := 0) rfl rfl (by kernel_rfl) rfl ?_
      | refine hb_storeRow rfl rfl rfl H rfl (k := 1) rfl rfl (by kernel_rfl) rfl (by rfl) ?_
      | refine hb_storeI rfl rfl rfl H rfl (k := 1) rfl rfl (by kernel_rfl) rfl ?_
      | refine hb_storeS rfl rfl rfl H rfl (k := 1) rfl rfl (by kernel_rfl) rfl ?_); intro W1 H1; clear H; simp only [List.setIfInBounds_toArray, List.set_cons_zero, List.set_cons_succ] at H1; have H := H1; clear H1))
            have hb5 := blk_grown (H.get (k := 1) rfl) hg5 (fun he => (HRR.out.1 gc he.symm) rfl)
            have H5 := HB.mk1 hB5 (HN.ge (k := 0) rfl) hb5
            have hlt := HLE.out (by simp)
            go_roundw
            case rel =>
              refine ⟨m, b2, out ++ [⟨2, 0, [0, 0, 0, 0, 0, 0, 0, 0, 0, 0, 0], (⟨#[]⟩ : ByteArray), [v, 0, 0, 0]⟩], by rw [List.length_append, List.length_singleton]; omega, HGG.out, HB2.out, H5, ?_⟩
              rw [List.map_append]; exact hR5
            case measure => rw [lenRef_eq H5 (k := 0) rfl, lenRef_eq HN (k := 0) rfl]; exact hlt
          · have hG := HG2.out
            rw [if_neg (by simp)] at hG
            obtain rfl := Option.some.inj hG
            clear hG HG2
            go_wp2_with (first
   | ((with_reducible refine gate_st rfl ?_); refine hb_storePart (t := 32) rfl rfl rfl H rfl (k := 0) rfl rfl (by kernel_rfl) rfl rfl ?_; intro W1 H1; clear H; simp only [List.set_cons_zero, List.set_cons_succ] at H1; simp only [putAt, List.length_cons, List.length_nil, Nat.reduceAdd, List.take_succ_cons, List.take_zero, List.drop_succ_cons, List.drop_zero, List.nil_append, List.cons_append] at H1; have H := H1; clear H1)
   | ((first
      | (with_reducible refine (HC11.out _).mono ?_)
      | (with_reducible refine (HC19.out _).mono ?_)
      | (with_reducible refine (HC20.out _).mono ?_)
      | (with_reducible refine (HC21.out _).mono ?_)
      | (with_reducible refine (HC22.out _).mono ?_)
      | (with_reducible refine (HC23.out _).mono ?_)); rintro ev w2 ⟨rfl, B2⟩; replace H := H.call B2; clear B2)
   | ((with_reducible refine gate_dst (N := 6) rfl ?_); refine hb_alloc rfl rfl H zero35 ?_; intro g6 W1 hg6 H1; clear H; have H := H1; clear H1)
   | ((with_reducible refine gate_load rfl ?_); first
      | refine hb_load rfl rfl H rfl (k := 0) rfl Tryd.underlying3 rfl rfl ?_
      | refine hb_load rfl rfl H rfl (k := 0) rfl Tryd.underlying9 rfl rfl ?_
      | refine hb_loadRow rfl rfl H rfl (k := 0) rfl Tryd.underlying56 rfl (by kernel_rfl) ?_
      | refine hb_loadRow rfl rfl H rfl (k := 0) rfl Tryd.underlying35 rfl (by kernel_rfl) ?_
      | refine hb_load rfl rfl H rfl (k := 1) rfl Tryd.underlying3 rfl rfl ?_
      | refine hb_load rfl rfl H rfl (k := 1) rfl Tryd.underlying9 rfl rfl ?_
      | refine hb_loadRow rfl rfl H rfl (k := 1) rfl Tryd.underlying56 rfl (by kernel_rfl) ?_
      | refine hb_loadRow rfl rfl H rfl (k := 1) rfl Tryd.underlying35 rfl (by kernel_rfl) ?_)
   | ((with_reducible refine gate_st rfl ?_); (first
      | refine hb_storeRow rfl rfl rfl H rfl (k := 0) rfl rfl (by kernel_rfl) rfl (by rfl) ?_
      | refine hb_storeI rfl rfl rfl H rfl (k := 0) rfl rfl (by kernel_rfl) rfl ?_
      | refine hb_storeS rfl rfl rfl H rfl (k := 0) rfl rfl (by kernel_rfl) rfl ?_
      | refine hb_storeRow rfl rfl rfl H rfl (k := 1) rfl rfl (by kernel_rfl) rfl (by rfl) ?_
      | refine hb_storeI rfl rfl rfl H rfl (k := 1) rfl rfl (by kernel_rfl) rfl ?_
      | refine hb_storeS rfl rfl rfl H rfl (k := 1) rfl rfl (by kernel_rfl) rfl ?_); intro W1 H1; clear H; simp only [List.setIfInBounds_toArray, List.set_cons_zero, List.set_cons_succ] at H1; have H := H1; clear H1))
            go_ret2
            exact ⟨_, rfl, Kd.R_mono (H.R HRR.out (away hg6)) (fun _ _ => trivial), HW0.out.trans H.below⟩
          · simp at hec
          · have hG := HG2.out
            rw [if_neg (by rw [bne_iff_ne] at he; simp [he])] at hG
            obtain rfl := Option.some.inj hG
            clear hG HG2
            go_wp2_with (first
   | ((with_reducible refine gate_st rfl ?_); refine hb_storePart (t := 32) rfl rfl rfl H rfl (k := 0) rfl rfl (by kernel_rfl) rfl rfl ?_; intro W1 H1; clear H; simp only [List.set_cons_zero, List.set_cons_succ] at H1; simp only [putAt, List.length_cons, List.length_nil, Nat.reduceAdd, List.take_succ_cons, List.take_zero, List.drop_succ_cons, List.drop_zero, List.nil_append, List.cons_append] at H1; have H := H1; clear H1)
   | ((first
      | (with_reducible refine (HC11.out _).mono ?_)
      | (with_reducible refine (HC19.out _).mono ?_)
      | (with_reducible refine (HC20.out _).mono ?_)
      | (with_reducible refine (HC21.out _).mono ?_)
      | (with_reducible refine (HC22.out _).mono ?_)
      | (with_reducible refine (HC23.out _).mono ?_)); rintro ev w2 ⟨rfl, B2⟩; replace H := H.call B2; clear B2)
   | ((with_reducible refine gate_dst (N := 6) rfl ?_); refine hb_alloc rfl rfl H zero35 ?_; intro g6 W1 hg6 H1; clear H; have H := H1; clear H1)
   | ((with_reducible refine gate_load rfl ?_); first
      | refine hb_load rfl rfl H rfl (k := 0) rfl Tryd.underlying3 rfl rfl ?_
      | refine hb_load rfl rfl H rfl (k := 0) rfl Tryd.underlying9 rfl rfl ?_
      | refine hb_loadRow rfl rfl H rfl (k := 0) rfl Tryd.underlying56 rfl (by kernel_rfl) ?_
      | refine hb_loadRow rfl rfl H rfl (k := 0) rfl Tryd.underlying35 rfl (by kernel_rfl) ?_
      | refine hb_load rfl rfl H rfl (k := 1) rfl Tryd.underlying3 rfl rfl ?_
      | refine hb_load rfl rfl H rfl (k := 1) rfl Tryd.underlying9 rfl rfl ?_
      | refine hb_loadRow rfl rfl H rfl (k := 1) rfl Tryd.underlying56 rfl (by kernel_rfl) ?_
      | refine hb_loadRow rfl rfl H rfl (k := 1) rfl Tryd.underlying35 rfl (by kernel_rfl) ?_)
   | ((with_reducible refine gate_st rfl ?_); (first
      | refine hb_storeRow rfl rfl rfl H rfl (k := 0) rfl rfl (by kernel_rfl) rfl (by rfl) ?_
      | refine hb_storeI rfl rfl rfl H rfl (k := 0) rfl rfl (by kernel_rfl) rfl ?_
      | refine hb_storeS rfl rfl rfl H rfl (k := 0) rfl rfl (by kernel_rfl) rfl ?_
      | refine hb_storeRow rfl rfl rfl H rfl (k := 1) rfl rfl (by kernel_rfl) rfl (by rfl) ?_
      | refine hb_storeI rfl rfl rfl H rfl (k := 1) rfl rfl (by kernel_rfl) rfl ?_
      | refine hb_storeS rfl rfl rfl H rfl (k := 1) rfl rfl (by kernel_rfl) rfl ?_); intro W1 H1; clear H; simp only [List.setIfInBounds_toArray, List.set_cons_zero, List.set_cons_succ] at H1; have H := H1; clear H1))
            go_ret2
            exact ⟨_, rfl, Kd.R_mono (H.R HRR.out (away hg6)) (fun _ _ => trivial), HW0.out.trans H.below⟩
        · have hT2 : By (intsN 4 b1 e1).2.1 := by
            simp only [intsN]; exact (((HB1.out.intOf _).intOf _).intOf _).intOf _
          have hle := intsN_le 4 b1 e1
          have her := intsN_err 4 (bs := b1) (e := e1)
          have htE : ∀ {b : List Int} {e : Int}, By b → ∃ v c d, Cur.intOf b e = (v, c, d) ∧ By c := fun {b e} h => ⟨_, _, _, rfl, h.intOf e⟩
          obtain ⟨v0, c0, d0, ht0, hc0⟩ := htE (e := e1) HB1.out
          obtain ⟨v1, c1, d1, ht1, hc1⟩ := htE (e := d0) hc0
          obtain ⟨v2, c2, d2, ht2, hc2⟩ := htE (e := d1) hc1
          obtain ⟨v3, b2, e2, ht3, hc3⟩ := htE (e := d2) hc2
          have C20 := refInt_c b1 e1 HB1.out
          have C21 := refInt_c c0 d0 hc0
          have C22 := refInt_c c1 d1 hc1
          have C23 := refInt_c c2 d2 hc2
          simp only [ht0] at C20
          simp only [ht1] at C21
          simp only [ht2] at C22
          simp only [ht3] at C23
          have hN : intsN 4 b1 e1 = ([v0, v1, v2, v3], b2, e2) := by rw [intsN_step ht0, intsN_step ht1, intsN_step ht2, intsN_step ht3]; rfl
          rw [hN] at hT2 hle her
          have HX : Aside0 (refStep bs = (⟨3, 0, [0, 0, 0, 0, 0, 0, 0, 0, 0, 0, 0], (⟨#[]⟩ : ByteArray), [v0, v1, v2, v3]⟩, 0, b2, e2)) := by
            constructor; unfold refStep; simp only [HS.out, hN]; rfl
          have HLE : Aside0 (e2 = 0 → b2.length < bs.length) := ⟨fun h0 => by
            have h1 : e1 = 0 := Classical.byContradiction fun hc => her hc h0
            have := HLT.out; rw [HS.out] at this; have := this h1; dsimp only at this hle; omega⟩
          have HC20 := Aside0.mk C20
          have HC21 := Aside0.mk C21
          have HC22 := Aside0.mk C22
          have HC23 := Aside0.mk C23
          have HB2 := Aside0.mk hT2
          clear C20 C21 C22 C23 hT2 hle her htE ht0 hc0 ht1 hc1 ht2 hc2 ht3 hc3 hN
          obtain ⟨r, hr⟩ : ∃ r, rightRS ⟨3, 0, [0, 0, 0, 0, 0, 0, 0, 0, 0, 0, 0], (⟨#[]⟩ : ByteArray), [v0, v1, v2, v3]⟩ = r := ⟨_, rfl⟩
          have C11 := right28_c ⟨3, 0, [0, 0, 0, 0, 0, 0, 0, 0, 0, 0, 0], (⟨#[]⟩ : ByteArray), [v0, v1, v2, v3]⟩ rfl rfl (by show (0:Nat) < _; omega)
          rw [hr] at C11
          have HC11 : Aside0 (∀ w, Calls Tryd.prog 11 #[.agg #[.int .i64 3, .int .i64 0, .int .i64 0, .int .i64 0, .int .i64 0, .int .i64 0, .int .i64 0, .int .i64 0, .int .i64 0, .int .i64 0, .int .i64 0, .int .i64 0, .int .i64 0, .string (⟨#[]⟩ : ByteArray), .int .i64 v0, .int .i64 v1, .int .i64 v2, .int .i64 v3]] w fun e w' => e = .returned (.bool r) ∧ Below w.heap.size w w') := ⟨C11⟩
          have HRT := Aside0.mk hr
          have hG := HG.out
          rw [HX.out] at hG
          simp only [hr] at hG
          have HG2 := Aside0.mk hG
          clear HG hr C11 hG
          rcases (show (e2 = 0 ∧ 0 = 0 ∧ r = true) ∨ (e2 = 0 ∧ 0 = 0 ∧ r = false) ∨ (e2 = 0 ∧ (0 != 0) = true) ∨ (e2 != 0) = true by simp only [bne_iff_ne]; by_cases h : e2 = 0 <;> by_cases h' : 0 = 0 <;> cases r <;> simp [h, h']) with ⟨rfl, -, rfl⟩ | ⟨rfl, -, rfl⟩ | ⟨rfl, hec⟩ | he
          · have hG := HG2.out
            rw [if_pos (by simp)] at hG
            have HGG := Aside0.mk hG
            clear hG HG2
            go_wp2_with (first
   | ((with_reducible refine gate_builtin (b := .append) (xs := #[.tmp 84, .tmp 86]) rfl ?_); at_builtin; refine Kd.R_append k35 (w0 := w) w.heap.size rfl (.tmp 84) (.tmp 86) 27 35 (.agg #[.int .i64 0, .int .i64 0, .int .i64 0, .int .i64 0, .int .i64 0, .int .i64 0, .int .i64 0, .int .i64 0, .int .i64 0, .int .i64 0, .int .i64 0, .int .i64 0, .int .i64 0, .string ⟨#[]⟩, .int .i64 0, .int .i64 0, .int .i64 0, .int .i64 0]) 152 rfl Tryd.underlying27 info35 rfl (by decide) (by omega) u4 (out.map toS35) (toS35 ⟨3, 0, [0, 0, 0, 0, 0, 0, 0, 0, 0, 0, 0], (⟨#[]⟩ : ByteArray), [v0, v1, v2, v3]⟩) [.int .i64 3, .int .i64 0, .int .i64 0, .int .i64 0, .int .i64 0, .int .i64 0, .int .i64 0, .int .i64 0, .int .i64 0, .int .i64 0, .int .i64 0, .int .i64 0, .int .i64 0, .string (⟨#[]⟩ : ByteArray), .int .i64 v0, .int .i64 v1, .int .i64 v2, .int .i64 v3] (fun k => k ≠ gc) (fun _ => False) rfl (by first | (go_simp; done) | (go_simp; rfl)) ?aP (fun _ hk => hk.elim) ?aF ?aO ?aB ?aS ?aL ?_; (case aP => exact k35_mkM _ _ _ (toS35 ⟨3, 0, [0, 0, 0, 0, 0, 0, 0, 0, 0, 0, 0], (⟨#[]⟩ : ByteArray), [v0, v1, v2, v3]⟩)); (case aF => exact fun k hk he => by have := H.lt (x := (gc, cuA b2 0, 56)) (by simp); simp only at this; omega); (case aO => exact H.R HRR.out (away hg6)); (case aB => exact HW0.out.trans H.below); (case aS => exact (HW0.out.trans H.below).size); (case aL => rw [List.length_map]; omega); intro v5 w5 hR5 hB5 hg5 hat5)
   | ((with_reducible refine gate_st rfl ?_); refine hb_storePart (t := 32) rfl rfl rfl H rfl (k := 0) rfl rfl (by kernel_rfl) rfl rfl ?_; intro W1 H1; clear H; simp only [List.set_cons_zero, List.set_cons_succ] at H1; simp only [putAt, List.length_cons, List.length_nil, Nat.reduceAdd, List.take_succ_cons, List.take_zero, List.drop_succ_cons, List.drop_zero, List.nil_append, List.cons_append] at H1; have H := H1; clear H1)
   | ((first
      | (with_reducible refine (HC11.out _).mono ?_)
      | (with_reducible refine (HC19.out _).mono ?_)
      | (with_reducible refine (HC20.out _).mono ?_)
      | (with_reducible refine (HC21.out _).mono ?_)
      | (with_reducible refine (HC22.out _).mono ?_)
      | (with_reducible refine (HC23.out _).mono ?_)); rintro ev w2 ⟨rfl, B2⟩; replace H := H.call B2; clear B2)
   | ((with_reducible refine gate_dst (N := 6) rfl ?_); refine hb_alloc rfl rfl H zero35 ?_; intro g6 W1 hg6 H1; clear H; have H := H1; clear H1)
   | ((with_reducible refine gate_load rfl ?_); first
      | refine hb_load rfl rfl H rfl (k := 0) rfl Tryd.underlying3 rfl rfl ?_
      | refine hb_load rfl rfl H rfl (k := 0) rfl Tryd.underlying9 rfl rfl ?_
      | refine hb_loadRow rfl rfl H rfl (k := 0) rfl Tryd.underlying56 rfl (by kernel_rfl) ?_
      | refine hb_loadRow rfl rfl H rfl (k := 0) rfl Tryd.underlying35 rfl (by kernel_rfl) ?_
      | refine hb_load rfl rfl H rfl (k := 1) rfl Tryd.underlying3 rfl rfl ?_
      | refine hb_load rfl rfl H rfl (k := 1) rfl Tryd.underlying9 rfl rfl ?_
      | refine hb_loadRow rfl rfl H rfl (k := 1) rfl Tryd.underlying56 rfl (by kernel_rfl) ?_
      | refine hb_loadRow rfl rfl H rfl (k := 1) rfl Tryd.underlying35 rfl (by kernel_rfl) ?_)
   | ((with_reducible refine gate_st rfl ?_); (first
      | refine hb_storeRow rfl rfl rfl H rfl (k := 0) rfl rfl (by kernel_rfl) rfl (by rfl) ?_
      | refine hb_storeI rfl rfl rfl H rfl (k := 0) rfl rfl (by kernel_rfl) rfl ?_
      | refine hb_storeS rfl rfl rfl H rfl (k := 0) rfl rfl (by kernel_rfl) rfl ?_
      | refine hb_storeRow rfl rfl rfl H rfl (k := 1) rfl rfl (by kernel_rfl) rfl (by rfl) ?_
      | refine hb_storeI rfl rfl rfl H rfl (k := 1) rfl rfl (by kernel_rfl) rfl ?_
      | refine hb_storeS rfl rfl rfl H rfl (k := 1) rfl rfl (by kernel_rfl) rfl ?_); intro W1 H1; clear H; simp only [List.setIfInBounds_toArray, List.set_cons_zero, List.set_cons_succ] at H1; have H := H1; clear H1))
            refine wp_loop_rounds 5 ?_
            iterate 5 (rw [rounds_succ]; go_wp2_with (first
   | ((with_reducible refine gate_builtin (b := .append) (xs := #[.tmp 84, .tmp 86]) rfl ?_); at_builtin; refine Kd.R_append k35 (w0 := w) w.heap.size rfl (.tmp 84) (.tmp 86) 27 35 (.agg #[.int .i64 0, .int .i64 0, .int .i64 0, .int .i64 0, .int .i64 0, .int .i64 0, .int .i64 0, .int .i64 0, .int .i64 0, .int .i64 0, .int .i64 0, .int .i64 0, .int .i64 0, .string ⟨#[]⟩, .int .i64 0, .int .i64 0, .int .i64 0, .int .i64 0]) 152 rfl Tryd.underlying27 info35 rfl (by decide) (by omega) u4 (out.map toS35) (toS35 ⟨3, 0, [0, 0, 0, 0, 0, 0, 0, 0, 0, 0, 0], (⟨#[]⟩ : ByteArray), [v0, v1, v2, v3]⟩) [.int .i64 3, .int .i64 0, .int .i64 0, .int .i64 0, .int .i64 0, .int .i64 0, .int .i64 0, .int .i64 0, .int .i64 0, .int .i64 0, .int .i64 0, .int .i64 0, .int .i64 0, .string (⟨#[]⟩ : ByteArray), .int .i64 v0, .int .i64 v1, .int .i64 v2, .int .i64 v3] (fun k => k ≠ gc) (fun _ => False) rfl (by first | (go_simp; done) | (go_simp; rfl)) ?aP (fun _ hk => hk.elim) ?aF ?aO ?aB ?aS ?aL ?_; (case aP => exact k35_mkM _ _ _ (toS35 ⟨3, 0, [0, 0, 0, 0, 0, 0, 0, 0, 0, 0, 0], (⟨#[]⟩ : ByteArray), [v0, v1, v2, v3]⟩)); (case aF => exact fun k hk he => by have := H.lt (x := (gc, cuA b2 0, 56)) (by simp); simp only at this; omega); (case aO => exact H.R HRR.out (away hg6)); (case aB => exact HW0.out.trans H.below); (case aS => exact (HW0.out.trans H.below).size); (case aL => rw [List.length_map]; omega); intro v5 w5 hR5 hB5 hg5 hat5)
   | ((with_reducible refine gate_st rfl ?_); refine hb_storePart (t := 32) rfl rfl rfl H rfl (k := 0) rfl rfl (by kernel_rfl) rfl rfl ?_; intro W1 H1; clear H; simp only [List.set_cons_zero, List.set_cons_succ] at H1; simp only [putAt, List.length_cons, List.length_nil, Nat.reduceAdd, List.take_succ_cons, List.take_zero, List.drop_succ_cons, List.drop_zero, List.nil_append, List.cons_append] at H1; have H := H1; clear H1)
   | ((first
      | (with_reducible refine (HC11.out _).mono ?_)
      | (with_reducible refine (HC19.out _).mono ?_)
      | (with_reducible refine (HC20.out _).mono ?_)
      | (with_reducible refine (HC21.out _).mono ?_)
      | (with_reducible refine (HC22.out _).mono ?_)
      | (with_reducible refine (HC23.out _).mono ?_)); rintro ev w2 ⟨rfl, B2⟩; replace H := H.call B2; clear B2)
   | ((with_reducible refine gate_dst (N := 6) rfl ?_); refine hb_alloc rfl rfl H zero35 ?_; intro g6 W1 hg6 H1; clear H; have H := H1; clear H1)
   | ((with_reducible refine gate_load rfl ?_); first
      | refine hb_load rfl rfl H rfl (k := 0) rfl Tryd.underlying3 rfl rfl ?_
      | refine hb_load rfl rfl H rfl (k := 0) rfl Tryd.underlying9 rfl rfl ?_
      | refine hb_loadRow rfl rfl H rfl (k := 0) rfl Tryd.underlying56 rfl (by kernel_rfl) ?_
      | refine hb_loadRow rfl rfl H rfl (k := 0) rfl Tryd.underlying35 rfl (by kernel_rfl) ?_
      | refine hb_load rfl rfl H rfl (k := 1) rfl Tryd.underlying3 rfl rfl ?_
      | refine hb_load rfl rfl H rfl (k := 1) rfl Tryd.underlying9 rfl rfl ?_
      | refine hb_loadRow rfl rfl H rfl (k := 1) rfl Tryd.underlying56 rfl (by kernel_rfl) ?_
      | refine hb_loadRow rfl rfl H rfl (k := 1) rfl Tryd.underlying35 rfl (by kernel_rfl) ?_)
   | ((with_reducible refine gate_st rfl ?_); (first
      | refine hb_storeRow rfl rfl rfl H rfl (k := 0) rfl rfl (by kernel_rfl) rfl (by rfl) ?_
      | refine hb_storeI rfl rfl rfl H rfl (k := 0) rfl rfl (by kernel_rfl) rfl ?_
      | refine hb_storeS rfl rfl rfl H rfl (k := 0) rfl rfl (by kernel_rfl) rfl ?_
      | refine hb_storeRow rfl rfl rfl H rfl (k := 1) rfl rfl (by kernel_rfl) rfl (by rfl) ?_
      | refine hb_storeI rfl rfl rfl H rfl (k := 1) rfl rfl (by kernel_rfl) rfl ?_
      | refine hb_storeS rfl rfl rfl H rfl (k := 1) rfl rfl (by kernel_rfl) rfl ?_); intro W1 H1; clear H; simp only [List.setIfInBounds_toArray, List.set_cons_zero, List.set_cons_succ] at H1; have H := H1; clear H1)))
            have hb5 := blk_grown (H.get (k := 1) rfl) hg5 (fun he => (HRR.out.1 gc he.symm) rfl)
            have H5 := HB.mk1 hB5 (HN.ge (k := 0) rfl) hb5
            have hlt := HLE.out (by simp)
            go_roundw
            case rel =>
              refine ⟨m, b2, out ++ [⟨3, 0, [0, 0, 0, 0, 0, 0, 0, 0, 0, 0, 0], (⟨#[]⟩ : ByteArray), [v0, v1, v2, v3]⟩], by rw [List.length_append, List.length_singleton]; omega, HGG.out, HB2.out, H5, ?_⟩
              rw [List.map_append]; exact hR5
            case measure => rw [lenRef_eq H5 (k := 0) rfl, lenRef_eq HN (k := 0) rfl]; exact hlt
          · have hG := HG2.out
            rw [if_neg (by simp)] at hG
            obtain rfl := Option.some.inj hG
            clear hG HG2
            go_wp2_with (first
   | ((with_reducible refine gate_st rfl ?_); refine hb_storePart (t := 32) rfl rfl rfl H rfl (k := 0) rfl rfl (by kernel_rfl) rfl rfl ?_; intro W1 H1; clear H; simp only [List.set_cons_zero, List.set_cons_succ] at H1; simp only [putAt, List.length_cons, List.length_nil, Nat.reduceAdd, List.take_succ_cons, List.take_zero, List.drop_succ_cons, List.drop_zero, List.nil_append, List.cons_append] at H1; have H := H1; clear H1)
   | ((first
      | (with_reducible refine (HC11.out _).mono ?_)
      | (with_reducible refine (HC19.out _).mono ?_)
      | (with_reducible refine (HC20.out _).mono ?_)
      | (with_reducible refine (HC21.out _).mono ?_)
      | (with_reducible refine (HC22.out _).mono ?_)
      | (with_reducible refine (HC23.out _).mono ?_)); rintro ev w2 ⟨rfl, B2⟩; replace H := H.call B2; clear B2)
   | ((with_reducible refine gate_dst (N := 6) rfl ?_); refine hb_alloc rfl rfl H zero35 ?_; intro g6 W1 hg6 H1; clear H; have H := H1; clear H1)
   | ((with_reducible refine gate_load rfl ?_); first
      | refine hb_load rfl rfl H rfl (k := 0) rfl Tryd.underlying3 rfl rfl ?_
      | refine hb_load rfl rfl H rfl (k := 0) rfl Tryd.underlying9 rfl rfl ?_
      | refine hb_loadRow rfl rfl H rfl (k := 0) rfl Tryd.underlying56 rfl (by kernel_rfl) ?_
      | refine hb_loadRow rfl rfl H rfl (k := 0) rfl Tryd.underlying35 rfl (by kernel_rfl) ?_
      | refine hb_load rfl rfl H rfl (k := 1) rfl Tryd.underlying3 rfl rfl ?_
      | refine hb_load rfl rfl H rfl (k := 1) rfl Tryd.underlying9 rfl rfl ?_
      | refine hb_loadRow rfl rfl H rfl (k := 1) rfl Tryd.underlying56 rfl (by kernel_rfl) ?_
      | refine hb_loadRow rfl rfl H rfl (k := 1) rfl Tryd.underlying35 rfl (by kernel_rfl) ?_)
   | ((with_reducible refine gate_st rfl ?_); (first
      | refine hb_storeRow rfl rfl rfl H rfl (k := 0) rfl rfl (by kernel_rfl) rfl (by rfl) ?_
      | refine hb_storeI rfl rfl rfl H rfl (k := 0) rfl rfl (by kernel_rfl) rfl ?_
      | refine hb_storeS rfl rfl rfl H rfl (k := 0) rfl rfl (by kernel_rfl) rfl ?_
      | refine hb_storeRow rfl rfl rfl H rfl (k := 1) rfl rfl (by kernel_rfl) rfl (by rfl) ?_
      | refine hb_storeI rfl rfl rfl H rfl (k := 1) rfl rfl (by kernel_rfl) rfl ?_
      | refine hb_storeS rfl rfl rfl H rfl (k := 1) rfl rfl (by kernel_rfl) rfl ?_); intro W1 H1; clear H; simp only [List.setIfInBounds_toArray, List.set_cons_zero, List.set_cons_succ] at H1; have H := H1; clear H1))
            refine wp_loop_rounds 5 ?_
            iterate 5 (rw [rounds_succ]; go_wp2_with (first
   | ((with_reducible refine gate_st rfl ?_); refine hb_storePart (t := 32) rfl rfl rfl H rfl (k := 0) rfl rfl (by kernel_rfl) rfl rfl ?_; intro W1 H1; clear H; simp only [List.set_cons_zero, List.set_cons_succ] at H1; simp only [putAt, List.length_cons, List.length_nil, Nat.reduceAdd, List.take_succ_cons, List.take_zero, List.drop_succ_cons, List.drop_zero, List.nil_append, List.cons_append] at H1; have H := H1; clear H1)
   | ((first
      | (with_reducible refine (HC11.out _).mono ?_)
      | (with_reducible refine (HC19.out _).mono ?_)
      | (with_reducible refine (HC20.out _).mono ?_)
      | (with_reducible refine (HC21.out _).mono ?_)
      | (with_reducible refine (HC22.out _).mono ?_)
      | (with_reducible refine (HC23.out _).mono ?_)); rintro ev w2 ⟨rfl, B2⟩; replace H := H.call B2; clear B2)
   | ((with_reducible refine gate_dst (N := 6) rfl ?_); refine hb_alloc rfl rfl H zero35 ?_; intro g6 W1 hg6 H1; clear H; have H := H1; clear H1)
   | ((with_reducible refine gate_load rfl ?_); first
      | refine hb_load rfl rfl H rfl (k := 0) rfl Tryd.underlying3 rfl rfl ?_
      | refine hb_load rfl rfl H rfl (k := 0) rfl Tryd.underlying9 rfl rfl ?_
      | refine hb_loadRow rfl rfl H rfl (k := 0) rfl Tryd.underlying56 rfl (by kernel_rfl) ?_
      | refine hb_loadRow rfl rfl H rfl (k := 0) rfl Tryd.underlying35 rfl (by kernel_rfl) ?_
      | refine hb_load rfl rfl H rfl (k := 1) rfl Tryd.underlying3 rfl rfl ?_
      | refine hb_load rfl rfl H rfl (k := 1) rfl Tryd.underlying9 rfl rfl ?_
      | refine hb_loadRow rfl rfl H rfl (k := 1) rfl Tryd.underlying56 rfl (by kernel_rfl) ?_
      | refine hb_loadRow rfl rfl H rfl (k := 1) rfl Tryd.underlying35 rfl (by kernel_rfl) ?_)
   | ((with_reducible refine gate_st rfl ?_); (first
      | refine hb_storeRow rfl rfl rfl H rfl (k := 0) rfl rfl (by kernel_rfl) rfl (by rfl) ?_
      | refine hb_storeI rfl rfl rfl H rfl (k := 0) rfl rfl (by kernel_rfl) rfl ?_
      | refine hb_storeS rfl rfl rfl H rfl (k := 0) rfl rfl (by kernel_rfl) rfl ?_
      | refine hb_storeRow rfl rfl rfl H rfl (k := 1) rfl rfl (by kernel_rfl) rfl (by rfl) ?_
      | refine hb_storeI rfl rfl rfl H rfl (k := 1) rfl rfl (by kernel_rfl) rfl ?_
      | refine hb_storeS rfl rfl rfl H rfl (k := 1) rfl rfl (by kernel_rfl) rfl ?_); intro W1 H1; clear H; simp only [List.setIfInBounds_toArray, List.set_cons_zero, List.set_cons_succ] at H1; have H := H1; clear H1)))
            go_ret2
            exact ⟨_, rfl, Kd.R_mono (H.R HRR.out (away hg6)) (fun _ _ => trivial), HW0.out.trans H.below⟩
          · simp at hec
          · have hG := HG2.out
            rw [if_neg (by rw [bne_iff_ne] at he; simp [he])] at hG
            obtain rfl := Option.some.inj hG
            clear hG HG2
            go_wp2_with (first
   | ((with_reducible refine gate_st rfl ?_); refine hb_storePart (t := 32) rfl rfl rfl H rfl (k := 0) rfl rfl (by kernel_rfl) rfl rfl ?_; intro W1 H1; clear H; simp only [List.set_cons_zero, List.set_cons_succ] at H1; simp only [putAt, List.length_cons, List.length_nil, Nat.reduceAdd, List.take_succ_cons, List.take_zero, List.drop_succ_cons, List.drop_zero, List.nil_append, List.cons_append] at H1; have H := H1; clear H1)
   | ((first
      | (with_reducible refine (HC11.out _).mono ?_)
      | (with_reducible refine (HC19.out _).mono ?_)
      | (with_reducible refine (HC20.out _).mono ?_)
      | (with_reducible refine (HC21.out _).mono ?_)
      | (with_reducible refine (HC22.out _).mono ?_)
      | (with_reducible refine (HC23.out _).mono ?_)); rintro ev w2 ⟨rfl, B2⟩; replace H := H.call B2; clear B2)
   | ((with_reducible refine gate_dst (N := 6) rfl ?_); refine hb_alloc rfl rfl H zero35 ?_; intro g6 W1 hg6 H1; clear H; have H := H1; clear H1)
   | ((with_reducible refine gate_load rfl ?_); first
      | refine hb_load rfl rfl H rfl (k := 0) rfl Tryd.underlying3 rfl rfl ?_
      | refine hb_load rfl rfl H rfl (k := 0) rfl Tryd.underlying9 rfl rfl ?_
      | refine hb_loadRow rfl rfl H rfl (k := 0) rfl Tryd.underlying56 rfl (by kernel_rfl) ?_
      | refine hb_loadRow rfl rfl H rfl (k := 0) rfl Tryd.underlying35 rfl (by kernel_rfl) ?_
      | refine hb_load rfl rfl H rfl (k := 1) rfl Tryd.underlying3 rfl rfl ?_
      | refine hb_load rfl rfl H rfl (k := 1) rfl Tryd.underlying9 rfl rfl ?_
      | refine hb_loadRow rfl rfl H rfl (k := 1) rfl Tryd.underlying56 rfl (by kernel_rfl) ?_
      | refine hb_loadRow rfl rfl H rfl (k := 1) rfl Tryd.underlying35 rfl (by kernel_rfl) ?_)
   | ((with_reducible refine gate_st rfl ?_); (first
      | refine hb_storeRow rfl rfl rfl H rfl (k := 0) rfl rfl (by kernel_rfl) rfl (by rfl) ?_
      | refine hb_storeI rfl rfl rfl H rfl (k := 0) rfl rfl (by kernel_rfl) rfl ?_
      | refine hb_storeS rfl rfl rfl H rfl (k := 0) rfl rfl (by kernel_rfl) rfl ?_
      | refine hb_storeRow rfl rfl rfl H rfl (k := 1) rfl rfl (by kernel_rfl) rfl (by rfl) ?_
      | refine hb_storeI rfl rfl rfl H rfl (k := 1) rfl rfl (by kernel_rfl) rfl ?_
      | refine hb_storeS rfl rfl rfl H rfl (k := 1) rfl rfl (by kernel_rfl) rfl ?_); intro W1 H1; clear H; simp only [List.setIfInBounds_toArray, List.set_cons_zero, List.set_cons_succ] at H1; have H := H1; clear H1))
            refine wp_loop_rounds 5 ?_
            iterate 5 (rw [rounds_succ]; go_wp2_with (first
   | ((with_reducible refine gate_st rfl ?_); refine hb_storePart (t := 32) rfl rfl rfl H rfl (k := 0) rfl rfl (by kernel_rfl) rfl rfl ?_; intro W1 H1; clear H; simp only [List.set_cons_zero, List.set_cons_succ] at H1; simp only [putAt, List.length_cons, List.length_nil, Nat.reduceAdd, List.take_succ_cons, List.take_zero, List.drop_succ_cons, List.drop_zero, List.nil_append, List.cons_append] at H1; have H := H1; clear H1)
   | ((first
      | (with_reducible refine (HC11.out _).mono ?_)
      | (with_reducible refine (HC19.out _).mono ?_)
      | (with_reducible refine (HC20.out _).mono ?_)
      | (with_reducible refine (HC21.out _).mono ?_)
      | (with_reducible refine (HC22.out _).mono ?_)
      | (with_reducible refine (HC23.out _).mono ?_)); rintro ev w2 ⟨rfl, B2⟩; replace H := H.call B2; clear B2)
   | ((with_reducible refine gate_dst (N := 6) rfl ?_); refine hb_alloc rfl rfl H zero35 ?_; intro g6 W1 hg6 H1; clear H; have H := H1; clear H1)
   | ((with_reducible refine gate_load rfl ?_); first
      | refine hb_load rfl rfl H rfl (k := 0) rfl Tryd.underlying3 rfl rfl ?_
      | refine hb_load rfl rfl H rfl (k := 0) rfl Tryd.underlying9 rfl rfl ?_
      | refine hb_loadRow rfl rfl H rfl (k := 0) rfl Tryd.underlying56 rfl (by kernel_rfl) ?_
      | refine hb_loadRow rfl rfl H rfl (k := 0) rfl Tryd.underlying35 rfl (by kernel_rfl) ?_
      | refine hb_load rfl rfl H rfl (k := 1) rfl Tryd.underlying3 rfl rfl ?_
      | refine hb_load rfl rfl H rfl (k := 1) rfl Tryd.underlying9 rfl rfl ?_
      | refine hb_loadRow rfl rfl H rfl (k := 1) rfl Tryd.underlying56 rfl (by kernel_rfl) ?_
      | refine hb_loadRow rfl rfl H rfl (k := 1) rfl Tryd.underlying35 rfl (by kernel_rfl) ?_)
   | ((with_reducible refine gate_st rfl ?_); (first
      | refine hb_storeRow rfl rfl rfl H rfl (k := 0) rfl rfl (by kernel_rfl) rfl (by rfl) ?_
      | refine hb_storeI rfl rfl rfl H rfl (k := 0) rfl rfl (by kernel_rfl) rfl ?_
      | refine hb_storeS rfl rfl rfl H rfl (k := 0) rfl rfl (by kernel_rfl) rfl ?_
      | refine hb_storeRow rfl rfl rfl H rfl (k := 1) rfl rfl (by kernel_rfl) rfl (by rfl) ?_
      | refine hb_storeI rfl rfl rfl H rfl (k := 1) rfl rfl (by kernel_rfl) rfl ?_
      | refine hb_storeS rfl rfl rfl H rfl (k := 1) rfl rfl (by kernel_rfl) rfl ?_); intro W1 H1; clear H; simp only [List.setIfInBounds_toArray, List.set_cons_zero, List.set_cons_succ] at H1; have H := H1; clear H1)))
            go_ret2
            exact ⟨_, rfl, Kd.R_mono (H.R HRR.out (away hg6)) (fun _ _ => trivial), HW0.out.trans H.below⟩
        · have hT2 : By b1 := HB1.out
          have hle : b1.length ≤ b1.length := Nat.le_refl _
          have her : e1 ≠ 0 → e1 ≠ 0 := id
          obtain ⟨b2, e2, rfl, rfl⟩ : ∃ b2 e2, b1 = b2 ∧ e1 = e2 := ⟨_, _, rfl, rfl⟩
          have HX : Aside0 (refStep bs = (⟨kd, 0, [0, 0, 0, 0, 0, 0, 0, 0, 0, 0, 0], (⟨#[]⟩ : ByteArray), [0, 0, 0, 0]⟩, 0, b1, e1)) := by
            simp only [beq_eq_false_iff_ne] at n0 n1 n2 n3
            constructor; unfold refStep; simp only [HS.out, n0, n1, n2, n3, if_false]
          have HLE : Aside0 (e1 = 0 → b1.length < bs.length) := ⟨fun h0 => by
            have h1 : e1 = 0 := Classical.byContradiction fun hc => her hc h0
            have := HLT.out; rw [HS.out] at this; have := this h1; dsimp only at this hle; omega⟩
          have HB2 := Aside0.mk hT2
          clear hT2 hle her
          obtain ⟨r, hr⟩ : ∃ r, rightRS ⟨kd, 0, [0, 0, 0, 0, 0, 0, 0, 0, 0, 0, 0], (⟨#[]⟩ : ByteArray), [0, 0, 0, 0]⟩ = r := ⟨_, rfl⟩
          have C11 := right28_c ⟨kd, 0, [0, 0, 0, 0, 0, 0, 0, 0, 0, 0, 0], (⟨#[]⟩ : ByteArray), [0, 0, 0, 0]⟩ rfl rfl (by show (0:Nat) < _; omega)
          rw [hr] at C11
          have HC11 : Aside0 (∀ w, Calls Tryd.prog 11 #[.agg #[.int .i64 kd, .int .i64 0, .int .i64 0, .int .i64 0, .int .i64 0, .int .i64 0, .int .i64 0, .int .i64 0, .int .i64 0, .int .i64 0, .int .i64 0, .int .i64 0, .int .i64 0, .string (⟨#[]⟩ : ByteArray), .int .i64 0, .int .i64 0, .int .i64 0, .int .i64 0]] w fun e w' => e = .returned (.bool r) ∧ Below w.heap.size w w') := ⟨C11⟩
          have HRT := Aside0.mk hr
          have hG := HG.out
          rw [HX.out] at hG
          simp only [hr] at hG
          have HG2 := Aside0.mk hG
          clear HG hr C11 hG
          rcases (show (e1 = 0 ∧ 0 = 0 ∧ r = true) ∨ (e1 = 0 ∧ 0 = 0 ∧ r = false) ∨ (e1 = 0 ∧ (0 != 0) = true) ∨ (e1 != 0) = true by simp only [bne_iff_ne]; by_cases h : e1 = 0 <;> by_cases h' : 0 = 0 <;> cases r <;> simp [h, h']) with ⟨rfl, -, rfl⟩ | ⟨rfl, -, rfl⟩ | ⟨rfl, hec⟩ | he
          · have hG := HG2.out
            rw [if_pos (by simp)] at hG
            have HGG := Aside0.mk hG
            clear hG HG2
            go_wp2_with (first
   | ((with_reducible refine gate_builtin (b := .append) (xs := #[.tmp 84, .tmp 86]) rfl ?_); at_builtin; refine Kd.R_append k35 (w0 := w) w.heap.size rfl (.tmp 84) (.tmp 86) 27 35 (.agg #[.int .i64 0, .int .i64 0, .int .i64 0, .int .i64 0, .int .i64 0, .int .i64 0, .int .i64 0, .int .i64 0, .int .i64 0, .int .i64 0, .int .i64 0, .int .i64 0, .int .i64 0, .string ⟨#[]⟩, .int .i64 0, .int .i64 0, .int .i64 0, .int .i64 0]) 152 rfl Tryd.underlying27 info35 rfl (by decide) (by omega) u4 (out.map toS35) (toS35 ⟨kd, 0, [0, 0, 0, 0, 0, 0, 0, 0, 0, 0, 0], (⟨#[]⟩ : ByteArray), [0, 0, 0, 0]⟩) [.int .i64 kd, .int .i64 0, .int .i64 0, .int .i64 0, .int .i64 0, .int .i64 0, .int .i64 0, .int .i64 0, .int .i64 0, .int .i64 0, .int .i64 0, .int .i64 0, .int .i64 0, .string (⟨#[]⟩ : ByteArray), .int .i64 0, .int .i64 0, .int .i64 0, .int .i64 0] (fun k => k ≠ gc) (fun _ => False) rfl (by first | (go_simp; done) | (go_simp; rfl)) ?aP (fun _ hk => hk.elim) ?aF ?aO ?aB ?aS ?aL ?_; (case aP => exact k35_mkM _ _ _ (toS35 ⟨kd, 0, [0, 0, 0, 0, 0, 0, 0, 0, 0, 0, 0], (⟨#[]⟩ : ByteArray), [0, 0, 0, 0]⟩)); (case aF => exact fun k hk he => by have := H.lt (x := (gc, cuA b1 0, 56)) (by simp); simp only at this; omega); (case aO => exact H.R HRR.out (away hg6)); (case aB => exact HW0.out.trans H.below); (case aS => exact (HW0.out.trans H.below).size); (case aL => rw [List.length_map]; omega); intro v5 w5 hR5 hB5 hg5 hat5)
   | ((with_reducible refine gate_st rfl ?_); refine hb_storePart (t := 32) rfl rfl rfl H rfl (k := 0) rfl rfl (by kernel_rfl) rfl rfl ?_; intro W1 H1; clear H; simp only [List.set_cons_zero, List.set_cons_succ] at H1; simp only [putAt, List.length_cons, List.length_nil, Nat.reduceAdd, List.take_succ_cons, List.take_zero, List.drop_succ_cons, List.drop_zero, List.nil_append, List.cons_append] at H1; have H := H1; clear H1)
   | ((first
      | (with_reducible refine (HC11.out _).mono ?_)
      | (with_reducible refine (HC19.out _).mono ?_)
      | (with_reducible refine (HC20.out _).mono ?_)
      | (with_reducible refine (HC21.out _).mono ?_)
      | (with_reducible refine (HC22.out _).mono ?_)
      | (with_reducible refine (HC23.out _).mono ?_)); rintro ev w2 ⟨rfl, B2⟩; replace H := H.call B2; clear B2)
   | ((with_reducible refine gate_dst (N := 6) rfl ?_); refine hb_alloc rfl rfl H zero35 ?_; intro g6 W1 hg6 H1; clear H; have H := H1; clear H1)
   | ((with_reducible refine gate_load rfl ?_); first
      | refine hb_load rfl rfl H rfl (k := 0) rfl Tryd.underlying3 rfl rfl ?_
      | refine hb_load rfl rfl H rfl (k := 0) rfl Tryd.underlying9 rfl rfl ?_
      | refine hb_loadRow rfl rfl H rfl (k := 0) rfl Tryd.underlying56 rfl (by kernel_rfl) ?_
      | refine hb_loadRow rfl rfl H rfl (k := 0) rfl Tryd.underlying35 rfl (by kernel_rfl) ?_
      | refine hb_load rfl rfl H rfl (k := 1) rfl Tryd.underlying3 rfl rfl ?_
      | refine hb_load rfl rfl H rfl (k := 1) rfl Tryd.underlying9 rfl rfl ?_
      | refine hb_loadRow rfl rfl H rfl (k := 1) rfl Tryd.underlying56 rfl (by kernel_rfl) ?_
      | refine hb_loadRow rfl rfl H rfl (k := 1) rfl Tryd.underlying35 rfl (by kernel_rfl) ?_)
   | ((with_reducible refine gate_st rfl ?_); (first
      | refine hb_storeRow rfl rfl rfl H rfl (k := 0) rfl rfl (by kernel_rfl) rfl (by rfl) ?_
      | refine hb_storeI rfl rfl rfl H rfl (k := 0) rfl rfl (by kernel_rfl) rfl ?_
      | refine hb_storeS rfl rfl rfl H rfl (k := 0) rfl rfl (by kernel_rfl) rfl ?_
      | refine hb_storeRow rfl rfl rfl H rfl (k := 1) rfl rfl (by kernel_rfl) rfl (by rfl) ?_
      | refine hb_storeI rfl rfl rfl H rfl (k := 1) rfl rfl (by kernel_rfl) rfl ?_
      | refine hb_storeS rfl rfl rfl H rfl (k := 1) rfl rfl (by kernel_rfl) rfl ?_); intro W1 H1; clear H; simp only [List.setIfInBounds_toArray, List.set_cons_zero, List.set_cons_succ] at H1; have H := H1; clear H1))
            have hb5 := blk_grown (H.get (k := 1) rfl) hg5 (fun he => (HRR.out.1 gc he.symm) rfl)
            have H5 := HB.mk1 hB5 (HN.ge (k := 0) rfl) hb5
            have hlt := HLE.out (by simp)
            go_roundw
            case rel =>
              refine ⟨m, b1, out ++ [⟨kd, 0, [0, 0, 0, 0, 0, 0, 0, 0, 0, 0, 0], (⟨#[]⟩ : ByteArray), [0, 0, 0, 0]⟩], by rw [List.length_append, List.length_singleton]; omega, HGG.out, HB2.out, H5, ?_⟩
              rw [List.map_append]; exact hR5
            case measure => rw [lenRef_eq H5 (k := 0) rfl, lenRef_eq HN (k := 0) rfl]; exact hlt
          · have hG := HG2.out
            rw [if_neg (by simp)] at hG
            obtain rfl := Option.some.inj hG
            clear hG HG2
            go_wp2_with (first
   | ((with_reducible refine gate_st rfl ?_); refine hb_storePart (t := 32) rfl rfl rfl H rfl (k := 0) rfl rfl (by kernel_rfl) rfl rfl ?_; intro W1 H1; clear H; simp only [List.set_cons_zero, List.set_cons_succ] at H1; simp only [putAt, List.length_cons, List.length_nil, Nat.reduceAdd, List.take_succ_cons, List.take_zero, List.drop_succ_cons, List.drop_zero, List.nil_append, List.cons_append] at H1; have H := H1; clear H1)
   | ((first
      | (with_reducible refine (HC11.out _).mono ?_)
      | (with_reducible refine (HC19.out _).mono ?_)
      | (with_reducible refine (HC20.out _).mono ?_)
      | (with_reducible refine (HC21.out _).mono ?_)
      | (with_reducible refine (HC22.out _).mono ?_)
      | (with_reducible refine (HC23.out _).mono ?_)); rintro ev w2 ⟨rfl, B2⟩; replace H := H.call B2; clear B2)
   | ((with_reducible refine gate_dst (N := 6) rfl ?_); refine hb_alloc rfl rfl H zero35 ?_; intro g6 W1 hg6 H1; clear H; have H := H1; clear H1)
   | ((with_reducible refine gate_load rfl ?_); first
      | refine hb_load rfl rfl H rfl (k := 0) rfl Tryd.underlying3 rfl rfl ?_
      | refine hb_load rfl rfl H rfl (k := 0) rfl Tryd.underlying9 rfl rfl ?_
      | refine hb_loadRow rfl rfl H rfl (k := 0) rfl Tryd.underlying56 rfl (by kernel_rfl) ?_
      | refine hb_loadRow rfl rfl H rfl (k := 0) rfl Tryd.underlying35 rfl (by kernel_rfl) ?_
      | refine hb_load rfl rfl H rfl (k := 1) rfl Tryd.underlying3 rfl rfl ?_
      | refine hb_load rfl rfl H rfl (k := 1) rfl Tryd.underlying9 rfl rfl ?_
      | refine hb_loadRow rfl rfl H rfl (k := 1) rfl Tryd.underlying56 rfl (by kernel_rfl) ?_
      | refine hb_loadRow rfl rfl H rfl (k := 1) rfl Tryd.underlying35 rfl (by kernel_rfl) ?_)
   | ((with_reducible refine gate_st rfl ?_); (first
      | refine hb_storeRow rfl rfl rfl H rfl (k := 0) rfl rfl (by kernel_rfl) rfl (by rfl) ?_
      | refine hb_storeI rfl rfl rfl H rfl (k := 0) rfl rfl (by kernel_rfl) rfl ?_
      | refine hb_storeS rfl rfl rfl H rfl (k := 0) rfl rfl (by kernel_rfl) rfl ?_
      | refine hb_storeRow rfl rfl rfl H rfl (k := 1) rfl rfl (by kernel_rfl) rfl (by rfl) ?_
      | refine hb_storeI rfl rfl rfl H rfl (k := 1) rfl rfl (by kernel_rfl) rfl ?_
      | refine hb_storeS rfl rfl rfl H rfl (k := 1) rfl rfl (by kernel_rfl) rfl ?_); intro W1 H1; clear H; simp only [List.setIfInBounds_toArray, List.set_cons_zero, List.set_cons_succ] at H1; have H := H1; clear H1))
            go_ret2
            exact ⟨_, rfl, Kd.R_mono (H.R HRR.out (away hg6)) (fun _ _ => trivial), HW0.out.trans H.below⟩
          · simp at hec
          · have hG := HG2.out
            rw [if_neg (by rw [bne_iff_ne] at he; simp [he])] at hG
            obtain rfl := Option.some.inj hG
            clear hG HG2
            go_wp2_with (first
   | ((with_reducible refine gate_st rfl ?_); refine hb_storePart (t := 32) rfl rfl rfl H rfl (k := 0) rfl rfl (by kernel_rfl) rfl rfl ?_; intro W1 H1; clear H; simp only [List.set_cons_zero, List.set_cons_succ] at H1; simp only [putAt, List.length_cons, List.length_nil, Nat.reduceAdd, List.take_succ_cons, List.take_zero, List.drop_succ_cons, List.drop_zero, List.nil_append, List.cons_append] at H1; have H := H1; clear H1)
   | ((first
      | (with_reducible refine (HC11.out _).mono ?_)
      | (with_reducible refine (HC19.out _).mono ?_)
      | (with_reducible refine (HC20.out _).mono ?_)
      | (with_reducible refine (HC21.out _).mono ?_)
      | (with_reducible refine (HC22.out _).mono ?_)
      | (with_reducible refine (HC23.out _).mono ?_)); rintro ev w2 ⟨rfl, B2⟩; replace H := H.call B2; clear B2)
   | ((with_reducible refine gate_dst (N := 6) rfl ?_); refine hb_alloc rfl rfl H zero35 ?_; intro g6 W1 hg6 H1; clear H; have H := H1; clear H1)
   | ((with_reducible refine gate_load rfl ?_); first
      | refine hb_load rfl rfl H rfl (k := 0) rfl Tryd.underlying3 rfl rfl ?_
      | refine hb_load rfl rfl H rfl (k := 0) rfl Tryd.underlying9 rfl rfl ?_
      | refine hb_loadRow rfl rfl H rfl (k := 0) rfl Tryd.underlying56 rfl (by kernel_rfl) ?_
      | refine hb_loadRow rfl rfl H rfl (k := 0) rfl Tryd.underlying35 rfl (by kernel_rfl) ?_
      | refine hb_load rfl rfl H rfl (k := 1) rfl Tryd.underlying3 rfl rfl ?_
      | refine hb_load rfl rfl H rfl (k := 1) rfl Tryd.underlying9 rfl rfl ?_
      | refine hb_loadRow rfl rfl H rfl (k := 1) rfl Tryd.underlying56 rfl (by kernel_rfl) ?_
      | refine hb_loadRow rfl rfl H rfl (k := 1) rfl Tryd.underlying35 rfl (by kernel_rfl) ?_)
   | ((with_reducible refine gate_st rfl ?_); (first
      | refine hb_storeRow rfl rfl rfl H rfl (k := 0) rfl rfl (by kernel_rfl) rfl (by rfl) ?_
      | refine hb_storeI rfl rfl rfl H rfl (k := 0) rfl rfl (by kernel_rfl) rfl ?_
      | refine hb_storeS rfl rfl rfl H rfl (k := 0) rfl rfl (by kernel_rfl) rfl ?_
      | refine hb_storeRow rfl rfl rfl H rfl (k := 1) rfl rfl (by kernel_rfl) rfl (by rfl) ?_
      | refine hb_storeI rfl rfl rfl H rfl (k := 1) rfl rfl (by kernel_rfl) rfl ?_
      | refine hb_storeS rfl rfl rfl H rfl (k := 1) rfl rfl (by kernel_rfl) rfl ?_); intro W1 H1; clear H; simp only [List.setIfInBounds_toArray, List.set_cons_zero, List.set_cons_succ] at H1; have H := H1; clear H1))
            go_ret2
            exact ⟨_, rfl, Kd.R_mono (H.R HRR.out (away hg6)) (fun _ _ => trivial), HW0.out.trans H.below⟩

end Go.Proofs.YtkkjjogbfjahgaaDoor.Sm
