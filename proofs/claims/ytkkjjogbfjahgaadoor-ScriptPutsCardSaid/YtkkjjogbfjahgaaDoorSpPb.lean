/- The reference's Put of steps, the program's Clean of a step, plain laws of both. Conditions: those that each theorem states. -/
import Derived.Test.YtkkjjogbfjahgaaDoorSpPa
import Derived.Test.YtkkjjogbfjahgaaDoorSmD
import Derived.Test.YtkkjjogbfjahgaaDoorSmB
import Derived.Outline
import Derived.Test.YtkkjjogbfjahgaaDoorPScx22
set_option linter.unusedVariables false
set_option linter.unusedSimpArgs false
/- The reference's Put of a script. -/
namespace Go.Proofs.YtkkjjogbfjahgaaDoor.Sm
open Go Go.Proofs Go.RowKit Go.Proofs.CodBytes Go.Proofs.YtkkjjogbfjahgaaDoorW.PrintWords Go.Proofs.YtkkjjogbfjahgaaDoorW.PrintLast Go.Proofs.YtkkjjogbfjahgaaDoorW.PrintMore Go.Proofs.YtkkjjogbfjahgaaDoor.PSc Go.Proofs.YtkkjjogbfjahgaaDoor.CodSame
/-- a row of a slice, as it stands -/
def RowAt (w : World) (ad : Addr) (cs : List Value) : Prop := ∀ j v, cs[j]? = some v → w.cell? (ad.add j) = some v
theorem HB.of {w W : World} (h : Below w.heap.size w W) : HB w [] W := ⟨h, by simp, .nil, Nat.le_refl _, fun k hk _ => h.block k hk⟩
theorem RowAt.kept {w W : World} {ad : Addr} {cs : List Value} (h : RowAt w ad cs) (hB : Below w.heap.size w W) : RowAt W ad cs := fun j v hj => (hB.cell (World.block_lt_of_cell? w _ (h j v hj))).trans (h j v hj)
def rsOf (x : S35) : RS := ⟨x.f0, x.f1.f0, [x.f1.f1.f0, x.f1.f1.f1, x.f1.f1.f2, x.f1.f1.f3, x.f1.f1.f4, x.f1.f1.f5, x.f1.f1.f6, x.f1.f1.f7, x.f1.f1.f8, x.f1.f1.f9, x.f1.f1.f10], x.f2, [x.f3.f0, x.f3.f1, x.f3.f2, x.f3.f3]⟩
theorem row35 {w : World} {A : Option Addr} {n : Nat} {xs : List S35} (h : Kd.C k35 w A n xs) (i : Nat) (hi : i < n) (hl : i < xs.length) : ∃ ad, A = some ad ∧ RowAt w (ad.add (i * 18)) (rsA (rsOf xs[i])).toList := by
  obtain ⟨ad, c, e, _, hK, hc0⟩ := Kd.C_get h z35 (i : Int) (by omega) (by omega)
  have hc : ∀ j u, c[j]? = some u → w.cell? (ad.add (i * 18 + j)) = some u := hc0
  have he : xs.getD ((i : Int).toNat) z35 = xs[i] := by simp [List.getD_eq_getElem?_getD, List.getElem?_eq_getElem hl]
  rw [he] at hK
  obtain rfl := k35_open hK
  refine ⟨ad, e, fun j v hj => ?_⟩
  rw [Addr.add_add]
  exact hc j v hj
section
variable {P : Program} {ops : Array Oper} {Q : Exit → Act → World → Prop} {rest : List Oper} {o : Oper} {a : Act} {w W : World} {l : Bs} {t : TypeId} {x : Operand} {d : TypeDesc}
theorem hb_elem (hgd : Region.wanted o (yielded ops a.tmps) = true) (ho : o.op = .load t x) {ad : Addr} {cs : List Value} (hr : RowAt W ad cs) (hx : a.eval x = .pointer (some ad)) (hu : P.underlying t = some d) (hd : d.aggB = true) (hi : (P.info? t).map (·.size) = some cs.length)
    (h : wpList P ops Q rest (a.put o.dst (.agg cs.toArray)) W) : wpList P ops Q (o :: rest) a W := by
  refine event_runW hgd ?_ h
  unfold execOp
  rw [ho]
  have hl := run_loadCells_list (P := P) (w := W) ad cs hr
  obtain ⟨q, hq⟩ := Option.map_eq_some_iff.1 hi
  cases d <;> simp [TypeDesc.aggB] at hd <;> simp [hx, Instr.loadAt, Instr.sureAddr, loadVar, isAgg, run_underlying hu, sizeOf, typeInfo, hq.1, hq.2, hl]
end
theorem str_bytes' (a : ByteArray) : strOfNums (bytesOf a) = a := by
  unfold bytesOf strOfNums
  simp only [List.map_map]
  have : (List.map ((fun x : Int => x.toNat.toUInt8) ∘ fun b : UInt8 => (b.toNat : Int)) a.data.toList) = a.data.toList := by
    refine (List.map_congr_left (fun x hx => ?_)).trans (List.map_id _)
    simp [Function.comp]
  rw [this]
def textR (t : ByteArray) : List Int := bytesI (t.size : Int) ++ bytesOf t
theorem putT_c (B : List Int) (t : ByteArray) (hB : B.length < 1000000000) (ht : t.size < 1000000000) (w : World) : Calls Tryd.prog 30 #[.string (strOfNums B), .string t] w fun e w' => e = .returned (.string (strOfNums (B ++ textR t))) ∧ Below w.heap.size w w' := by
  have H := HB.start w
  have hl := bytesI_length (t.size : Int)
  obtain ⟨b1, hb1⟩ : ∃ b, b = strOfNums (B ++ bytesI (t.size : Int)) := ⟨_, rfl⟩
  have C : Aside0 (∀ w, Calls Tryd.prog 29 #[.string (strOfNums B), .int .i64 (t.size : Int)] w fun e w' => e = .returned (.string b1) ∧ Below w.heap.size w w') := ⟨fun w => by rw [hb1]; exact putI_c B _ (by unfold I64; omega) (by omega) w⟩
  have hs : b1.size + t.size ≤ 9223372036854775807 := by rw [hb1, size_str, List.length_append]; omega
  have hs1 := decide_eq_true hs
  have hs2 : (9223372036854775807 < b1.size + t.size) = False := eq_false (Nat.not_lt.2 hs)
  have HBB := Aside0.mk hb1
  clear hb1 hl
  go_enter Tryd.func30, Tryd.ntmps30
  go_wp2_with (first
   | ((with_reducible refine (C.out _).mono ?_); rintro e w2 ⟨rfl, B2⟩; replace H := H.call B2; clear B2))
  go_ret
  refine ⟨?_, H.below⟩
  have e1 : b1 ++ t = strOfNums (B ++ textR t) := by
    rw [HBB.out, textR, ← List.append_assoc]
    exact (congrArg (strOfNums (B ++ bytesI (t.size : Int)) ++ ·) (str_bytes' t).symm).trans (str_append _ _).symm
  rw [← e1]
  rfl
def cmdL (k : Int) (F : List Int) : List Int := layI ((cleanR k F).1 :: (cleanR k F).2)
def bodyR (s : RS) : List Int :=
  if s.kind = 0 then textR (strOfNums (cmdL s.mkd s.F)) else if s.kind = 1 then textR s.line else if s.kind = 2 then bytesI (s.N.getD 0 0) else if s.kind = 3 then layI s.N else []
def refB (s : RS) : List Int := if rightRS s = true then bytesI s.kind ++ bodyR s else []
/-- the numbers that are laid are in range -/
structure In64 (s : RS) : Prop where
  cmd : I64 (cleanR s.mkd s.F).1 ∧ ∀ v ∈ (cleanR s.mkd s.F).2, I64 v
  ns : ∀ v ∈ s.N, I64 v
theorem cmdL_len (k : Int) (F : List Int) (hF : F.length = 11) : (cmdL k F).length ≤ 120 := by
  have := layI_len ((cleanR k F).1 :: (cleanR k F).2)
  have h := cleanR_len' k F hF
  unfold cmdL
  simp only [List.length_cons] at this
  omega
theorem rightRS_kind {s : RS} (h : rightRS s = true) : s.kind = 0 ∨ s.kind = 1 ∨ s.kind = 2 ∨ s.kind = 3 ∨ s.kind = 4 ∨ s.kind = 5 := by
  unfold rightRS at h
  simp only [Bool.and_eq_true, decide_eq_true_eq] at h
  omega
theorem rightRS_line {s : RS} (h : rightRS s = true) (h1 : s.kind = 1) : s.line.size ≤ 264 := by
  unfold rightRS at h
  simp only [Bool.and_eq_true, Bool.or_eq_true, decide_eq_true_eq] at h
  omega
theorem refB_len (s : RS) (hF : s.F.length = 11) (hN : s.N.length = 4) : (refB s).length ≤ 300 := by
  unfold refB
  split
  · rename_i hr
    have hb : (bodyR s).length ≤ 290 := by
      unfold bodyR textR
      have h1 := cmdL_len s.mkd s.F hF
      have h2 := layI_len s.N
      have h3 := bytesI_length (s.N.getD 0 0)
      have h4 := bytesI_length (s.line.size : Int)
      have h5 := bytesI_length ((strOfNums (cmdL s.mkd s.F)).size : Int)
      have h6 := rightRS_line hr
      split
      · rw [List.length_append, bytesOf_length, size_str]; rw [size_str] at h5; omega
      · split
        · rw [List.length_append, bytesOf_length]; rename_i h7; have := h6 h7; omega
        · split
          · omega
          · split
            · omega
            · simp
    have := bytesI_length s.kind
    rw [List.length_append]; omega
  · simp
set_option maxRecDepth 100000 in
set_option maxHeartbeats 4000000 in
theorem put28_c (xs : List S35) (A : Option Addr) (c : Nat) (w : World) (hC : Kd.C k35 w A xs.length xs) (hc : xs.length ≤ c) (hn : xs.length < 1000) (h64 : ∀ x ∈ xs, rightRS (rsOf x) = true → In64 (rsOf x)) (hsz : ∀ x ∈ xs, x.f2.size < 9223372036854775807) :
    Calls Tryd.prog 15 #[.slice A xs.length c] w fun e w' => e = .returned (.string (strOfNums (xs.flatMap fun x => refB (rsOf x)))) ∧ Below w.heap.size w w' := by
  have hu27 := Tryd.underlying27
  have hu35 := Tryd.underlying35
  have hu33 := Tryd.underlying33
  have hu32 := Tryd.underlying32
  have HC := Aside0.mk hC
  have H64 := Aside0.mk h64
  have HSZ := Aside0.mk hsz
  clear hC h64 hsz
  go_enter Tryd.func15, Tryd.ntmps15
  go_wp2
  go_loopw [3, 4] (fun v3 v4 wr => ∃ (i : Nat), i ≤ xs.length ∧ v4 = .int .i64 i ∧ v3 = .string (strOfNums ((xs.take i).flatMap fun x => refB (rsOf x))) ∧ Below w.heap.size w wr) (fun _ v4 _ => xs.length - (intOf v4).toNat)
  case atStart => exact ⟨0, Nat.zero_le _, rfl, rfl, Below.refl _ _⟩
  case round =>
    obtain ⟨i, hi, rfl, rfl, hB⟩ := hrel
    have H := HB.of hB
    clear hB
    by_cases hlt : i < xs.length
    · have h0 : (0 : Int) ≤ i := by omega
      have h1 : (i : Int) < xs.length := by omega
      obtain ⟨ad, rfl, hrw⟩ := row35 HC.out i hlt hlt
      have hmem := List.getElem_mem hlt
      obtain ⟨x, hx⟩ : ∃ x, x = xs[i] := ⟨_, rfl⟩
      have hT : (xs.take (i + 1)).flatMap (fun x => refB (rsOf x)) = (xs.take i).flatMap (fun x => refB (rsOf x)) ++ refB (rsOf x) := by
        rw [hx, List.take_succ_eq_append_getElem hlt, List.flatMap_append]
        simp only [List.flatMap_cons, List.flatMap_nil, List.append_nil]
      have hB : ∀ n, n ≤ xs.length → ((xs.take n).flatMap fun x => refB (rsOf x)).length ≤ 300 * n := by
        intro n
        induction n with
        | zero => intro _; simp
        | succ n ih =>
          intro hn'
          have := ih (by omega)
          have h3 := refB_len (rsOf xs[n]) rfl rfl
          rw [List.take_succ_eq_append_getElem (by omega)]
          simp only [List.flatMap_append, List.length_append, List.flatMap_cons, List.flatMap_nil, List.append_nil]
          omega
      have hBl := hB i hi
      rw [← hx] at hmem hrw
      have hx64 := H64.out x hmem
      have hxs := HSZ.out x hmem
      obtain ⟨B, hBe⟩ : ∃ B, B = (xs.take i).flatMap fun x => refB (rsOf x) := ⟨_, rfl⟩
      rw [← hBe] at hT hBl ⊢
      clear hB hmem HSZ H64 hBe hx
      have HT := Aside0.mk hT
      clear hT
      have hBl2 : B.length ≤ 300000 := by omega
      clear hBl
      obtain ⟨k, ⟨mk, ⟨f0, f1, f2, f3, f4, f5, f6, f7, f8, f9, f10⟩⟩, ln, ⟨n0, n1, n2, n3⟩⟩ := x
      obtain ⟨b, hb⟩ : ∃ b, b = strOfNums B := ⟨_, rfl⟩
      have hs2 : b.size ≤ 300000 := by rw [hb, size_str]; exact hBl2
      obtain ⟨r, hr⟩ : ∃ r, rightRS ⟨k, mk, [f0, f1, f2, f3, f4, f5, f6, f7, f8, f9, f10], ln, [n0, n1, n2, n3]⟩ = r := ⟨_, rfl⟩
      have C11 := right28_c ⟨k, mk, [f0, f1, f2, f3, f4, f5, f6, f7, f8, f9, f10], ln, [n0, n1, n2, n3]⟩ rfl rfl hxs
      have HRW : Aside0 (RowAt w (ad.add (i * 18)) #[.int .i64 k, .int .i64 mk, .int .i64 f0, .int .i64 f1, .int .i64 f2, .int .i64 f3, .int .i64 f4, .int .i64 f5, .int .i64 f6, .int .i64 f7, .int .i64 f8, .int .i64 f9, .int .i64 f10, .string ln, .int .i64 n0, .int .i64 n1, .int .i64 n2, .int .i64 n3].toList) := ⟨hrw⟩
      have HR : Aside0 (rightRS ⟨k, mk, [f0, f1, f2, f3, f4, f5, f6, f7, f8, f9, f10], ln, [n0, n1, n2, n3]⟩ = r) := ⟨hr⟩
      rw [hr] at C11
      have HC11 : Aside0 (∀ w, Calls Tryd.prog 11 #[.agg #[.int .i64 k, .int .i64 mk, .int .i64 f0, .int .i64 f1, .int .i64 f2, .int .i64 f3, .int .i64 f4, .int .i64 f5, .int .i64 f6, .int .i64 f7, .int .i64 f8, .int .i64 f9, .int .i64 f10, .string ln, .int .i64 n0, .int .i64 n1, .int .i64 n2, .int .i64 n3]] w fun e w' => e = .returned (.bool r) ∧ Below w.heap.size w w') := ⟨C11⟩
      clear C11 hrw hxs
      rw [← hb]
      cases r with
      | false =>
        have HX : Aside0 (refB ⟨k, mk, [f0, f1, f2, f3, f4, f5, f6, f7, f8, f9, f10], ln, [n0, n1, n2, n3]⟩ = []) := ⟨if_neg (by rw [hr]; simp)⟩
        have HBB := Aside0.mk hb
        clear hr hx64 hb
        go_wp2_with (first
   | ((with_reducible refine (HC11.out _).mono ?_); rintro e w2 ⟨rfl, B2⟩; replace H := H.call B2; clear B2)
   | ((with_reducible refine gate_alloc rfl ?_); refine hb_alloc rfl rfl H zero35 ?_; intro g W1 hg H1; clear H; have H := H1; clear H1)
   | ((with_reducible refine gate_load rfl ?_); first
      | refine hb_load rfl rfl H rfl (k := 0) rfl Tryd.underlying3 rfl rfl ?_
      | refine hb_load rfl rfl H rfl (k := 0) rfl Tryd.underlying2 rfl rfl ?_
      | refine hb_load rfl rfl H rfl (k := 0) rfl Tryd.underlying9 rfl rfl ?_
      | refine hb_loadRow rfl rfl H rfl (k := 0) rfl Tryd.underlying35 rfl (by kernel_rfl) ?_
      | refine hb_part rfl rfl H rfl (k := 0) rfl Tryd.underlying32 rfl 12 (by kernel_rfl) rfl (by simp only [List.drop_succ_cons, List.drop_zero, List.take_succ_cons, List.take_zero]; rfl) ?_
      | refine hb_elem rfl rfl (HRW.out.kept H.below) rfl Tryd.underlying35 rfl (by kernel_rfl) ?_)
   | ((with_reducible refine gate_st rfl ?_); (refine hb_storeRow rfl rfl rfl H rfl (k := 0) rfl rfl (by kernel_rfl) rfl (by rfl) ?_); intro W1 H1; clear H; simp only [List.setIfInBounds_toArray, List.set_cons_zero, List.set_cons_succ] at H1; have H := H1; clear H1))
        go_roundw
        case rel => exact ⟨i + 1, hlt, by go_num, by rw [HT.out]; show _ = Value.string (strOfNums (B ++ refB ⟨k, mk, [f0, f1, f2, f3, f4, f5, f6, f7, f8, f9, f10], ln, [n0, n1, n2, n3]⟩)); rw [HX.out, List.append_nil, HBB.out], H.below⟩
        case measure => simp [intOf]; omega
      | true =>
        have hx64' := hx64 hr
        clear hx64
        obtain ⟨hcm, hns⟩ := hx64'
        dsimp only [rsOf] at hcm hns
        have hk6 := rightRS_kind hr
        have hln := rightRS_line hr
        dsimp only at hk6 hln
        have hX : refB ⟨k, mk, [f0, f1, f2, f3, f4, f5, f6, f7, f8, f9, f10], ln, [n0, n1, n2, n3]⟩ = bytesI k ++ bodyR ⟨k, mk, [f0, f1, f2, f3, f4, f5, f6, f7, f8, f9, f10], ln, [n0, n1, n2, n3]⟩ := if_pos hr
        have hkI : I64 k := by unfold I64; omega
        obtain ⟨b1, hb1⟩ : ∃ b1, b1 = strOfNums (B ++ bytesI k) := ⟨_, rfl⟩
        have hl1 := bytesI_length k
        have hB1 : (B ++ bytesI k).length ≤ 300010 := by rw [List.length_append]; omega
        have P0 : Aside0 (∀ w, Calls Tryd.prog 29 #[.string b, .int .i64 k] w fun e w' => e = .returned (.string b1) ∧ Below w.heap.size w w') := ⟨fun w => by rw [hb, hb1]; exact putI_c B k hkI (by omega) w⟩
        clear hr
        rcases hk6 with rfl | rfl | rfl | rfl | rfl | rfl
        · obtain ⟨s1, hs1⟩ : ∃ s, s = strOfNums (cmdL mk [f0, f1, f2, f3, f4, f5, f6, f7, f8, f9, f10]) := ⟨_, rfl⟩
          have hs1l : s1.size ≤ 120 := by rw [hs1, size_str]; exact cmdL_len mk _ rfl
          have P1 : Aside0 (∀ w, Calls Tryd.prog 31 #[.agg #[.int .i64 mk, .int .i64 f0, .int .i64 f1, .int .i64 f2, .int .i64 f3, .int .i64 f4, .int .i64 f5, .int .i64 f6, .int .i64 f7, .int .i64 f8, .int .i64 f9, .int .i64 f10]] w fun e w' => e = .returned (.string s1) ∧ Below w.heap.size w w') := ⟨fun w => by rw [hs1]; exact put22_c mk [f0, f1, f2, f3, f4, f5, f6, f7, f8, f9, f10] rfl _ rfl hcm.1 hcm.2 w⟩
          obtain ⟨b2, hb2⟩ : ∃ b2, b2 = strOfNums ((B ++ bytesI 0) ++ textR s1) := ⟨_, rfl⟩
          have P2 : Aside0 (∀ w, Calls Tryd.prog 30 #[.string b1, .string s1] w fun e w' => e = .returned (.string b2) ∧ Below w.heap.size w w') := ⟨fun w => by rw [hb1, hb2]; exact putT_c _ s1 (by omega) (by omega) w⟩
          have HE : Aside0 (Value.string b2 = .string (strOfNums (B ++ refB ⟨0, mk, [f0, f1, f2, f3, f4, f5, f6, f7, f8, f9, f10], ln, [n0, n1, n2, n3]⟩))) := ⟨by rw [hb2, hX, bodyR, if_pos rfl, ← hs1, List.append_assoc]⟩
          clear hX hb hb1 hs2 hBl2 hcm hns hln hkI hl1 hB1 hs1 hb2 hs1l
          go_wp2_with (first
   | ((with_reducible refine (HC11.out _).mono ?_); rintro e w2 ⟨rfl, B2⟩; replace H := H.call B2; clear B2)
   | ((with_reducible refine (P0.out _).mono ?_); rintro e w2 ⟨rfl, B2⟩; replace H := H.call B2; clear B2)
   | ((with_reducible refine (P1.out _).mono ?_); rintro e w2 ⟨rfl, B2⟩; replace H := H.call B2; clear B2)
   | ((with_reducible refine (P2.out _).mono ?_); rintro e w2 ⟨rfl, B2⟩; replace H := H.call B2; clear B2)
   | ((with_reducible refine gate_alloc rfl ?_); refine hb_alloc rfl rfl H zero35 ?_; intro g W1 hg H1; clear H; have H := H1; clear H1)
   | ((with_reducible refine gate_load rfl ?_); first
      | refine hb_load rfl rfl H rfl (k := 0) rfl Tryd.underlying3 rfl rfl ?_
      | refine hb_load rfl rfl H rfl (k := 0) rfl Tryd.underlying2 rfl rfl ?_
      | refine hb_load rfl rfl H rfl (k := 0) rfl Tryd.underlying9 rfl rfl ?_
      | refine hb_loadRow rfl rfl H rfl (k := 0) rfl Tryd.underlying35 rfl (by kernel_rfl) ?_
      | refine hb_part rfl rfl H rfl (k := 0) rfl Tryd.underlying32 rfl 12 (by kernel_rfl) rfl (by simp only [List.drop_succ_cons, List.drop_zero, List.take_succ_cons, List.take_zero]; rfl) ?_
      | refine hb_elem rfl rfl (HRW.out.kept H.below) rfl Tryd.underlying35 rfl (by kernel_rfl) ?_)
   | ((with_reducible refine gate_st rfl ?_); (refine hb_storeRow rfl rfl rfl H rfl (k := 0) rfl rfl (by kernel_rfl) rfl (by rfl) ?_); intro W1 H1; clear H; simp only [List.setIfInBounds_toArray, List.set_cons_zero, List.set_cons_succ] at H1; have H := H1; clear H1))
          go_roundw
          case rel => exact ⟨i + 1, hlt, by go_num, by rw [HT.out]; exact HE.out, H.below⟩
          case measure => simp [intOf]; omega
        · obtain ⟨b2, hb2⟩ : ∃ b2, b2 = strOfNums ((B ++ bytesI 1) ++ textR ln) := ⟨_, rfl⟩
          have P2 : Aside0 (∀ w, Calls Tryd.prog 30 #[.string b1, .string ln] w fun e w' => e = .returned (.string b2) ∧ Below w.heap.size w w') := ⟨fun w => by rw [hb1, hb2]; exact putT_c _ ln (by omega) (by have := hln rfl; omega) w⟩
          have HE : Aside0 (Value.string b2 = .string (strOfNums (B ++ refB ⟨1, mk, [f0, f1, f2, f3, f4, f5, f6, f7, f8, f9, f10], ln, [n0, n1, n2, n3]⟩))) := ⟨by rw [hb2, hX, bodyR, if_neg (by simp), if_pos rfl, List.append_assoc]⟩
          clear hX hb hb1 hs2 hBl2 hcm hns hln hkI hl1 hB1 hb2
          go_wp2_with (first
   | ((with_reducible refine (HC11.out _).mono ?_); rintro e w2 ⟨rfl, B2⟩; replace H := H.call B2; clear B2)
   | ((with_reducible refine (P0.out _).mono ?_); rintro e w2 ⟨rfl, B2⟩; replace H := H.call B2; clear B2)
   | ((with_reducible refine (P2.out _).mono ?_); rintro e w2 ⟨rfl, B2⟩; replace H := H.call B2; clear B2)
   | ((with_reducible refine gate_alloc rfl ?_); refine hb_alloc rfl rfl H zero35 ?_; intro g W1 hg H1; clear H; have H := H1; clear H1)
   | ((with_reducible refine gate_load rfl ?_); first
      | refine hb_load rfl rfl H rfl (k := 0) rfl Tryd.underlying3 rfl rfl ?_
      | refine hb_load rfl rfl H rfl (k := 0) rfl Tryd.underlying2 rfl rfl ?_
      | refine hb_load rfl rfl H rfl (k := 0) rfl Tryd.underlying9 rfl rfl ?_
      | refine hb_loadRow rfl rfl H rfl (k := 0) rfl Tryd.underlying35 rfl (by kernel_rfl) ?_
      | refine hb_part rfl rfl H rfl (k := 0) rfl Tryd.underlying32 rfl 12 (by kernel_rfl) rfl (by simp only [List.drop_succ_cons, List.drop_zero, List.take_succ_cons, List.take_zero]; rfl) ?_
      | refine hb_elem rfl rfl (HRW.out.kept H.below) rfl Tryd.underlying35 rfl (by kernel_rfl) ?_)
   | ((with_reducible refine gate_st rfl ?_); (refine hb_storeRow rfl rfl rfl H rfl (k := 0) rfl rfl (by kernel_rfl) rfl (by rfl) ?_); intro W1 H1; clear H; simp only [List.setIfInBounds_toArray, List.set_cons_zero, List.set_cons_succ] at H1; have H := H1; clear H1))
          go_roundw
          case rel => exact ⟨i + 1, hlt, by go_num, by rw [HT.out]; exact HE.out, H.below⟩
          case measure => simp [intOf]; omega
        · obtain ⟨b2, hb2⟩ : ∃ b2, b2 = strOfNums ((B ++ bytesI 2) ++ bytesI n0) := ⟨_, rfl⟩
          have P2 : Aside0 (∀ w, Calls Tryd.prog 29 #[.string b1, .int .i64 n0] w fun e w' => e = .returned (.string b2) ∧ Below w.heap.size w w') := ⟨fun w => by rw [hb1, hb2]; exact putI_c _ n0 (hns _ (by simp)) (by omega) w⟩
          have HE : Aside0 (Value.string b2 = .string (strOfNums (B ++ refB ⟨2, mk, [f0, f1, f2, f3, f4, f5, f6, f7, f8, f9, f10], ln, [n0, n1, n2, n3]⟩))) := ⟨by rw [hb2, hX, bodyR, if_neg (by simp), if_neg (by simp), if_pos rfl, List.append_assoc]; rfl⟩
          clear hX hb hb1 hs2 hBl2 hcm hns hln hkI hl1 hB1 hb2
          go_wp2_with (first
   | ((with_reducible refine (HC11.out _).mono ?_); rintro e w2 ⟨rfl, B2⟩; replace H := H.call B2; clear B2)
   | ((with_reducible refine (P0.out _).mono ?_); rintro e w2 ⟨rfl, B2⟩; replace H := H.call B2; clear B2)
   | ((with_reducible refine (P2.out _).mono ?_); rintro e w2 ⟨rfl, B2⟩; replace H := H.call B2; clear B2)
   | ((with_reducible refine gate_alloc rfl ?_); refine hb_alloc rfl rfl H zero35 ?_; intro g W1 hg H1; clear H; have H := H1; clear H1)
   | ((with_reducible refine gate_load rfl ?_); first
      | refine hb_load rfl rfl H rfl (k := 0) rfl Tryd.underlying3 rfl rfl ?_
      | refine hb_load rfl rfl H rfl (k := 0) rfl Tryd.underlying2 rfl rfl ?_
      | refine hb_load rfl rfl H rfl (k := 0) rfl Tryd.underlying9 rfl rfl ?_
      | refine hb_loadRow rfl rfl H rfl (k := 0) rfl Tryd.underlying35 rfl (by kernel_rfl) ?_
      | refine hb_part rfl rfl H rfl (k := 0) rfl Tryd.underlying32 rfl 12 (by kernel_rfl) rfl (by simp only [List.drop_succ_cons, List.drop_zero, List.take_succ_cons, List.take_zero]; rfl) ?_
      | refine hb_elem rfl rfl (HRW.out.kept H.below) rfl Tryd.underlying35 rfl (by kernel_rfl) ?_)
   | ((with_reducible refine gate_st rfl ?_); (refine hb_storeRow rfl rfl rfl H rfl (k := 0) rfl rfl (by kernel_rfl) rfl (by rfl) ?_); intro W1 H1; clear H; simp only [List.setIfInBounds_toArray, List.set_cons_zero, List.set_cons_succ] at H1; have H := H1; clear H1))
          go_roundw
          case rel => exact ⟨i + 1, hlt, by go_num, by rw [HT.out]; exact HE.out, H.below⟩
          case measure => simp [intOf]; omega
        · have hl4 : ∀ m, m ≤ 4 → (layI ([n0, n1, n2, n3].take m)).length ≤ 40 := fun m hm => by have := layI_len ([n0, n1, n2, n3].take m); rw [List.length_take] at this; omega
          obtain ⟨c0, hc0⟩ : ∃ b, b = strOfNums ((B ++ bytesI 3) ++ bytesI n0) := ⟨_, rfl⟩
          have hlc0 := bytesI_length n0
          have P1 : Aside0 (∀ w, Calls Tryd.prog 29 #[.string b1, .int .i64 n0] w fun e w' => e = .returned (.string c0) ∧ Below w.heap.size w w') := ⟨fun w => by rw [hb1, hc0]; exact putI_c _ n0 (hns _ (by simp)) (by simp only [List.length_append] at hB1 ⊢; omega) w⟩
          obtain ⟨c1, hc1⟩ : ∃ b, b = strOfNums (((B ++ bytesI 3) ++ bytesI n0) ++ bytesI n1) := ⟨_, rfl⟩
          have hlc1 := bytesI_length n1
          have P2 : Aside0 (∀ w, Calls Tryd.prog 29 #[.string c0, .int .i64 n1] w fun e w' => e = .returned (.string c1) ∧ Below w.heap.size w w') := ⟨fun w => by rw [hc0, hc1]; exact putI_c _ n1 (hns _ (by simp)) (by simp only [List.length_append] at hB1 ⊢; omega) w⟩
          obtain ⟨c2, hc2⟩ : ∃ b, b = strOfNums ((((B ++ bytesI 3) ++ bytesI n0) ++ bytesI n1) ++ bytesI n2) := ⟨_, rfl⟩
          have hlc2 := bytesI_length n2
          have P3 : Aside0 (∀ w, Calls Tryd.prog 29 #[.string c1, .int .i64 n2] w fun e w' => e = .returned (.string c2) ∧ Below w.heap.size w w') := ⟨fun w => by rw [hc1, hc2]; exact putI_c _ n2 (hns _ (by simp)) (by simp only [List.length_append] at hB1 ⊢; omega) w⟩
          obtain ⟨c3, hc3⟩ : ∃ b, b = strOfNums (((((B ++ bytesI 3) ++ bytesI n0) ++ bytesI n1) ++ bytesI n2) ++ bytesI n3) := ⟨_, rfl⟩
          have hlc3 := bytesI_length n3
          have P4 : Aside0 (∀ w, Calls Tryd.prog 29 #[.string c2, .int .i64 n3] w fun e w' => e = .returned (.string c3) ∧ Below w.heap.size w w') := ⟨fun w => by rw [hc2, hc3]; exact putI_c _ n3 (hns _ (by simp)) (by simp only [List.length_append] at hB1 ⊢; omega) w⟩
          have HE : Aside0 (Value.string c3 = .string (strOfNums (B ++ refB ⟨3, mk, [f0, f1, f2, f3, f4, f5, f6, f7, f8, f9, f10], ln, [n0, n1, n2, n3]⟩))) := ⟨by rw [hc3, hX, bodyR, if_neg (by simp), if_neg (by simp), if_neg (by simp), if_pos rfl]; simp [layI]⟩
          clear hX hb hb1 hs2 hBl2 hcm hns hln hkI hl1 hB1 hc0 hc1 hc2 hc3 hl4 hlc0 hlc1 hlc2 hlc3
          go_wp2_with (first
   | ((with_reducible refine (HC11.out _).mono ?_); rintro e w2 ⟨rfl, B2⟩; replace H := H.call B2; clear B2)
   | ((with_reducible refine (P0.out _).mono ?_); rintro e w2 ⟨rfl, B2⟩; replace H := H.call B2; clear B2)
   | ((with_reducible refine gate_alloc rfl ?_); refine hb_alloc rfl rfl H zero35 ?_; intro g W1 hg H1; clear H; have H := H1; clear H1)
   | ((with_reducible refine gate_load rfl ?_); first
      | refine hb_load rfl rfl H rfl (k := 0) rfl Tryd.underlying3 rfl rfl ?_
      | refine hb_load rfl rfl H rfl (k := 0) rfl Tryd.underlying2 rfl rfl ?_
      | refine hb_load rfl rfl H rfl (k := 0) rfl Tryd.underlying9 rfl rfl ?_
      | refine hb_loadRow rfl rfl H rfl (k := 0) rfl Tryd.underlying35 rfl (by kernel_rfl) ?_
      | refine hb_part rfl rfl H rfl (k := 0) rfl Tryd.underlying32 rfl 12 (by kernel_rfl) rfl (by simp only [List.drop_succ_cons, List.drop_zero, List.take_succ_cons, List.take_zero]; rfl) ?_
      | refine hb_elem rfl rfl (HRW.out.kept H.below) rfl Tryd.underlying35 rfl (by kernel_rfl) ?_)
   | ((with_reducible refine gate_st rfl ?_); (refine hb_storeRow rfl rfl rfl H rfl (k := 0) rfl rfl (by kernel_rfl) rfl (by rfl) ?_); intro W1 H1; clear H; simp only [List.setIfInBounds_toArray, List.set_cons_zero, List.set_cons_succ] at H1; have H := H1; clear H1))
          refine wp_loop_rounds 5 ?_
          rw [rounds_succ]
          go_wp2_with (first
   | ((with_reducible refine (P1.out _).mono ?_); rintro e w2 ⟨rfl, B2⟩; replace H := H.call B2; clear B2)
   | ((with_reducible refine gate_alloc rfl ?_); refine hb_alloc rfl rfl H zero35 ?_; intro g W1 hg H1; clear H; have H := H1; clear H1)
   | ((with_reducible refine gate_load rfl ?_); first
      | refine hb_load rfl rfl H rfl (k := 0) rfl Tryd.underlying3 rfl rfl ?_
      | refine hb_load rfl rfl H rfl (k := 0) rfl Tryd.underlying2 rfl rfl ?_
      | refine hb_load rfl rfl H rfl (k := 0) rfl Tryd.underlying9 rfl rfl ?_
      | refine hb_loadRow rfl rfl H rfl (k := 0) rfl Tryd.underlying35 rfl (by kernel_rfl) ?_
      | refine hb_part rfl rfl H rfl (k := 0) rfl Tryd.underlying32 rfl 12 (by kernel_rfl) rfl (by simp only [List.drop_succ_cons, List.drop_zero, List.take_succ_cons, List.take_zero]; rfl) ?_
      | refine hb_elem rfl rfl (HRW.out.kept H.below) rfl Tryd.underlying35 rfl (by kernel_rfl) ?_)
   | ((with_reducible refine gate_st rfl ?_); (refine hb_storeRow rfl rfl rfl H rfl (k := 0) rfl rfl (by kernel_rfl) rfl (by rfl) ?_); intro W1 H1; clear H; simp only [List.setIfInBounds_toArray, List.set_cons_zero, List.set_cons_succ] at H1; have H := H1; clear H1))
          rw [rounds_succ]
          go_wp2_with (first
   | ((with_reducible refine (P2.out _).mono ?_); rintro e w2 ⟨rfl, B2⟩; replace H := H.call B2; clear B2)
   | ((with_reducible refine gate_alloc rfl ?_); refine hb_alloc rfl rfl H zero35 ?_; intro g W1 hg H1; clear H; have H := H1; clear H1)
   | ((with_reducible refine gate_load rfl ?_); first
      | refine hb_load rfl rfl H rfl (k := 0) rfl Tryd.underlying3 rfl rfl ?_
      | refine hb_load rfl rfl H rfl (k := 0) rfl Tryd.underlying2 rfl rfl ?_
      | refine hb_load rfl rfl H rfl (k := 0) rfl Tryd.underlying9 rfl rfl ?_
      | refine hb_loadRow rfl rfl H rfl (k := 0) rfl Tryd.underlying35 rfl (by kernel_rfl) ?_
      | refine hb_part rfl rfl H rfl (k := 0) rfl Tryd.underlying32 rfl 12 (by kernel_rfl) rfl (by simp only [List.drop_succ_cons, List.drop_zero, List.take_succ_cons, List.take_zero]; rfl) ?_
      | refine hb_elem rfl rfl (HRW.out.kept H.below) rfl Tryd.underlying35 rfl (by kernel_rfl) ?_)
   | ((with_reducible refine gate_st rfl ?_); (refine hb_storeRow rfl rfl rfl H rfl (k := 0) rfl rfl (by kernel_rfl) rfl (by rfl) ?_); intro W1 H1; clear H; simp only [List.setIfInBounds_toArray, List.set_cons_zero, List.set_cons_succ] at H1; have H := H1; clear H1))
          rw [rounds_succ]
          go_wp2_with (first
   | ((with_reducible refine (P3.out _).mono ?_); rintro e w2 ⟨rfl, B2⟩; replace H := H.call B2; clear B2)
   | ((with_reducible refine gate_alloc rfl ?_); refine hb_alloc rfl rfl H zero35 ?_; intro g W1 hg H1; clear H; have H := H1; clear H1)
   | ((with_reducible refine gate_load rfl ?_); first
      | refine hb_load rfl rfl H rfl (k := 0) rfl Tryd.underlying3 rfl rfl ?_
      | refine hb_load rfl rfl H rfl (k := 0) rfl Tryd.underlying2 rfl rfl ?_
      | refine hb_load rfl rfl H rfl (k := 0) rfl Tryd.underlying9 rfl rfl ?_
      | refine hb_loadRow rfl rfl H rfl (k := 0) rfl Tryd.underlying35 rfl (by kernel_rfl) ?_
      | refine hb_part rfl rfl H rfl (k := 0) rfl Tryd.underlying32 rfl 12 (by kernel_rfl) rfl (by simp only [List.drop_succ_cons, List.drop_zero, List.take_succ_cons, List.take_zero]; rfl) ?_
      | refine hb_elem rfl rfl (HRW.out.kept H.below) rfl Tryd.underlying35 rfl (by kernel_rfl) ?_)
   | ((with_reducible refine gate_st rfl ?_); (refine hb_storeRow rfl rfl rfl H rfl (k := 0) rfl rfl (by kernel_rfl) rfl (by rfl) ?_); intro W1 H1; clear H; simp only [List.setIfInBounds_toArray, List.set_cons_zero, List.set_cons_succ] at H1; have H := H1; clear H1))
          rw [rounds_succ]
          go_wp2_with (first
   | ((with_reducible refine (P4.out _).mono ?_); rintro e w2 ⟨rfl, B2⟩; replace H := H.call B2; clear B2)
   | ((with_reducible refine gate_alloc rfl ?_); refine hb_alloc rfl rfl H zero35 ?_; intro g W1 hg H1; clear H; have H := H1; clear H1)
   | ((with_reducible refine gate_load rfl ?_); first
      | refine hb_load rfl rfl H rfl (k := 0) rfl Tryd.underlying3 rfl rfl ?_
      | refine hb_load rfl rfl H rfl (k := 0) rfl Tryd.underlying2 rfl rfl ?_
      | refine hb_load rfl rfl H rfl (k := 0) rfl Tryd.underlying9 rfl rfl ?_
      | refine hb_loadRow rfl rfl H rfl (k := 0) rfl Tryd.underlying35 rfl (by kernel_rfl) ?_
      | refine hb_part rfl rfl H rfl (k := 0) rfl Tryd.underlying32 rfl 12 (by kernel_rfl) rfl (by simp only [List.drop_succ_cons, List.drop_zero, List.take_succ_cons, List.take_zero]; rfl) ?_
      | refine hb_elem rfl rfl (HRW.out.kept H.below) rfl Tryd.underlying35 rfl (by kernel_rfl) ?_)
   | ((with_reducible refine gate_st rfl ?_); (refine hb_storeRow rfl rfl rfl H rfl (k := 0) rfl rfl (by kernel_rfl) rfl (by rfl) ?_); intro W1 H1; clear H; simp only [List.setIfInBounds_toArray, List.set_cons_zero, List.set_cons_succ] at H1; have H := H1; clear H1))
          rw [rounds_succ]
          go_wp2_with (first
   | ((with_reducible refine gate_alloc rfl ?_); refine hb_alloc rfl rfl H zero35 ?_; intro g W1 hg H1; clear H; have H := H1; clear H1)
   | ((with_reducible refine gate_load rfl ?_); first
      | refine hb_load rfl rfl H rfl (k := 0) rfl Tryd.underlying3 rfl rfl ?_
      | refine hb_load rfl rfl H rfl (k := 0) rfl Tryd.underlying2 rfl rfl ?_
      | refine hb_load rfl rfl H rfl (k := 0) rfl Tryd.underlying9 rfl rfl ?_
      | refine hb_loadRow rfl rfl H rfl (k := 0) rfl Tryd.underlying35 rfl (by kernel_rfl) ?_
      | refine hb_part rfl rfl H rfl (k := 0) rfl Tryd.underlying32 rfl 12 (by kernel_rfl) rfl (by simp only [List.drop_succ_cons, List.drop_zero, List.take_succ_cons, List.take_zero]; rfl) ?_
      | refine hb_elem rfl rfl (HRW.out.kept H.below) rfl Tryd.underlying35 rfl (by kernel_rfl) ?_)
   | ((with_reducible refine gate_st rfl ?_); (refine hb_storeRow rfl rfl rfl H rfl (k := 0) rfl rfl (by kernel_rfl) rfl (by rfl) ?_); intro W1 H1; clear H; simp only [List.setIfInBounds_toArray, List.set_cons_zero, List.set_cons_succ] at H1; have H := H1; clear H1))
          go_roundw
          case rel => exact ⟨i + 1, hlt, by go_num, by rw [HT.out]; exact HE.out, H.below⟩
          case measure => simp [intOf]; omega
        · have HE : Aside0 (Value.string b1 = .string (strOfNums (B ++ refB ⟨4, mk, [f0, f1, f2, f3, f4, f5, f6, f7, f8, f9, f10], ln, [n0, n1, n2, n3]⟩))) := ⟨by rw [hb1, hX, bodyR, if_neg (by simp), if_neg (by simp), if_neg (by simp), if_neg (by simp), List.append_nil]⟩
          clear hX hb hb1 hs2 hBl2 hcm hns hln hkI hl1 hB1
          go_wp2_with (first
   | ((with_reducible refine (HC11.out _).mono ?_); rintro e w2 ⟨rfl, B2⟩; replace H := H.call B2; clear B2)
   | ((with_reducible refine (P0.out _).mono ?_); rintro e w2 ⟨rfl, B2⟩; replace H := H.call B2; clear B2)
   | ((with_reducible refine gate_alloc rfl ?_); refine hb_alloc rfl rfl H zero35 ?_; intro g W1 hg H1; clear H; have H := H1; clear H1)
   | ((with_reducible refine gate_load rfl ?_); first
      | refine hb_load rfl rfl H rfl (k := 0) rfl Tryd.underlying3 rfl rfl ?_
      | refine hb_load rfl rfl H rfl (k := 0) rfl Tryd.underlying2 rfl rfl ?_
      | refine hb_load rfl rfl H rfl (k := 0) rfl Tryd.underlying9 rfl rfl ?_
      | refine hb_loadRow rfl rfl H rfl (k := 0) rfl Tryd.underlying35 rfl (by kernel_rfl) ?_
      | refine hb_part rfl rfl H rfl (k := 0) rfl Tryd.underlying32 rfl 12 (by kernel_rfl) rfl (by simp only [List.drop_succ_cons, List.drop_zero, List.take_succ_cons, List.take_zero]; rfl) ?_
      | refine hb_elem rfl rfl (HRW.out.kept H.below) rfl Tryd.underlying35 rfl (by kernel_rfl) ?_)
   | ((with_reducible refine gate_st rfl ?_); (refine hb_storeRow rfl rfl rfl H rfl (k := 0) rfl rfl (by kernel_rfl) rfl (by rfl) ?_); intro W1 H1; clear H; simp only [List.setIfInBounds_toArray, List.set_cons_zero, List.set_cons_succ] at H1; have H := H1; clear H1))
          go_roundw
          case rel => exact ⟨i + 1, hlt, by go_num, by rw [HT.out]; exact HE.out, H.below⟩
          case measure => simp [intOf]; omega
        · have HE : Aside0 (Value.string b1 = .string (strOfNums (B ++ refB ⟨5, mk, [f0, f1, f2, f3, f4, f5, f6, f7, f8, f9, f10], ln, [n0, n1, n2, n3]⟩))) := ⟨by rw [hb1, hX, bodyR, if_neg (by simp), if_neg (by simp), if_neg (by simp), if_neg (by simp), List.append_nil]⟩
          clear hX hb hb1 hs2 hBl2 hcm hns hln hkI hl1 hB1
          go_wp2_with (first
   | ((with_reducible refine (HC11.out _).mono ?_); rintro e w2 ⟨rfl, B2⟩; replace H := H.call B2; clear B2)
   | ((with_reducible refine (P0.out _).mono ?_); rintro e w2 ⟨rfl, B2⟩; replace H := H.call B2; clear B2)
   | ((with_reducible refine gate_alloc rfl ?_); refine hb_alloc rfl rfl H zero35 ?_; intro g W1 hg H1; clear H; have H := H1; clear H1)
   | ((with_reducible refine gate_load rfl ?_); first
      | refine hb_load rfl rfl H rfl (k := 0) rfl Tryd.underlying3 rfl rfl ?_
      | refine hb_load rfl rfl H rfl (k := 0) rfl Tryd.underlying2 rfl rfl ?_
      | refine hb_load rfl rfl H rfl (k := 0) rfl Tryd.underlying9 rfl rfl ?_
      | refine hb_loadRow rfl rfl H rfl (k := 0) rfl Tryd.underlying35 rfl (by kernel_rfl) ?_
      | refine hb_part rfl rfl H rfl (k := 0) rfl Tryd.underlying32 rfl 12 (by kernel_rfl) rfl (by simp only [List.drop_succ_cons, List.drop_zero, List.take_succ_cons, List.take_zero]; rfl) ?_
      | refine hb_elem rfl rfl (HRW.out.kept H.below) rfl Tryd.underlying35 rfl (by kernel_rfl) ?_)
   | ((with_reducible refine gate_st rfl ?_); (refine hb_storeRow rfl rfl rfl H rfl (k := 0) rfl rfl (by kernel_rfl) rfl (by rfl) ?_); intro W1 H1; clear H; simp only [List.setIfInBounds_toArray, List.set_cons_zero, List.set_cons_succ] at H1; have H := H1; clear H1))
          go_roundw
          case rel => exact ⟨i + 1, hlt, by go_num, by rw [HT.out]; exact HE.out, H.below⟩
          case measure => simp [intOf]; omega
    · obtain rfl : i = xs.length := by omega
      have h1 : ¬ (xs.length : Int) < xs.length := by omega
      go_wp2
      go_ret
      exact ⟨rfl, H.below⟩
end Go.Proofs.YtkkjjogbfjahgaaDoor.Sm
set_option linter.unusedVariables false
set_option linter.unusedSimpArgs false
/- A step's Clean by the program. -/
namespace Go.Proofs.YtkkjjogbfjahgaaDoor.Sm
open Go Go.Proofs Go.RowKit Go.Proofs.YtkkjjogbfjahgaaDoorW.PrintWords Go.Proofs.YtkkjjogbfjahgaaDoorW.PrintLast Go.Proofs.YtkkjjogbfjahgaaDoorW.PrintMore Go.Proofs.YtkkjjogbfjahgaaDoor.PSc
theorem zero42 (w : World) : (zeroValue 42).run Tryd.prog w = .ok (.agg #[.int .i64 0, .int .i64 0, .int .i64 0, .int .i64 0, .int .i64 0, .int .i64 0, .int .i64 0, .int .i64 0, .int .i64 0, .int .i64 0, .int .i64 0, .int .i64 0, .bool false, .string (⟨#[]⟩ : ByteArray), .int .i64 0, .int .i64 0, .int .i64 0, .int .i64 0, .int .i64 0]) w := by kernel_rfl
def oS : ByteArray := ⟨#[]⟩
def oC : S39 := ⟨0, 0, 0, 0, 0, 0, 0, 0, 0, 0, 0, false⟩
def oK : S40 := ⟨0, 0, 0, 0⟩
def cleanS (x : S42) : S42 :=
  if x.f0 = 0 then ⟨0, cleanC x.f1, oS, 0, oK⟩ else if x.f0 = 1 then ⟨1, oC, x.f2, 0, oK⟩ else if x.f0 = 2 then ⟨2, oC, oS, x.f3, oK⟩
  else if x.f0 = 3 then ⟨3, oC, oS, 0, x.f4⟩ else if x.f0 = 4 ∨ x.f0 = 5 then ⟨x.f0, oC, oS, 0, oK⟩ else ⟨0, oC, oS, 0, oK⟩
set_option maxRecDepth 100000 in
set_option maxHeartbeats 4000000 in
theorem cleanS_c (s : S42) (w : World) : Calls Tryd.prog 12 #[.agg (stepA s)] w fun e w' => e = .returned (.agg (stepA (cleanS s))) ∧ Below w.heap.size w w' := by
  have hu42 := Tryd.underlying42
  have hu39 := Tryd.underlying39
  have hu40 := Tryd.underlying40
  have H := HB.start w
  obtain ⟨k, ⟨m0, m1, m2, m3, m4, m5, m6, m7, m8, m9, m10, m11⟩, ln, n, ⟨p0, p1, p2, p3⟩⟩ := s
  have C26 := clean_c ⟨m0, m1, m2, m3, m4, m5, m6, m7, m8, m9, m10, m11⟩
  obtain ⟨R, hR⟩ : ∃ R, R = cleanS ⟨k, ⟨m0, m1, m2, m3, m4, m5, m6, m7, m8, m9, m10, m11⟩, ln, n, ⟨p0, p1, p2, p3⟩⟩ := ⟨_, rfl⟩
  rw [← hR]
  unfold cleanS at hR
  dsimp only at hR
  obtain ⟨c, hc⟩ : ∃ c, c = cleanC ⟨m0, m1, m2, m3, m4, m5, m6, m7, m8, m9, m10, m11⟩ := ⟨_, rfl⟩
  rw [← hc] at hR C26
  obtain ⟨d0, d1, d2, d3, d4, d5, d6, d7, d8, d9, d10, d11⟩ := c
  have HC : Aside0 (∀ w, Calls Tryd.prog 26 #[.agg #[.int .i64 m0, .int .i64 m1, .int .i64 m2, .int .i64 m3, .int .i64 m4, .int .i64 m5, .int .i64 m6, .int .i64 m7, .int .i64 m8, .int .i64 m9, .int .i64 m10, .bool m11]] w fun e w' => e = .returned (.agg #[.int .i64 d0, .int .i64 d1, .int .i64 d2, .int .i64 d3, .int .i64 d4, .int .i64 d5, .int .i64 d6, .int .i64 d7, .int .i64 d8, .int .i64 d9, .int .i64 d10, .bool d11]) ∧ Below w.heap.size w w') := ⟨C26⟩
  have HR := Aside0.mk hR
  clear hR C26 hc
  have hk : k = 0 ∨ k = 1 ∨ k = 2 ∨ k = 3 ∨ k = 4 ∨ k = 5 ∨ ((k == 0) = false ∧ (k == 1) = false ∧ (k == 2) = false ∧ (k == 3) = false ∧ (k == 4) = false ∧ (k == 5) = false) := by
    simp only [beq_eq_false_iff_ne]; omega
  show Calls _ _ #[.agg #[_, _, _, _, _, _, _, _, _, _, _, _, _, _, _, _, _, _, _]] w _
  rcases hk with rfl | rfl | rfl | rfl | rfl | rfl | ⟨z0, z1, z2, z3, z4, z5⟩
  all_goals
    go_enter Tryd.func12, Tryd.ntmps12
    go_wp2_with (first
   | ((with_reducible refine (HC.out _).mono ?_); rintro e w2 ⟨rfl, B2⟩; replace H := H.call B2; clear B2)
   | ((with_reducible refine gate_box rfl ?_); refine hb_box rfl rfl H rfl ?_; intro gb W1 hgb H1; clear H; have H := H1; clear H1)
   | ((with_reducible refine gate_alloc rfl ?_); refine hb_alloc rfl rfl H zero42 ?_; intro g W1 hg H1; clear H; have H := H1; clear H1)
   | ((with_reducible refine gate_load rfl ?_); first
      | refine hb_loadRow rfl rfl H rfl (k := 0) rfl Tryd.underlying42 rfl (by kernel_rfl) ?_
      | refine hb_load rfl rfl H rfl (k := 2) rfl Tryd.underlying3 rfl rfl ?_
      | refine hb_load rfl rfl H rfl (k := 2) rfl Tryd.underlying9 rfl rfl ?_
      | refine hb_load rfl rfl H rfl (k := 1) rfl Tryd.underlying3 rfl rfl ?_
      | refine hb_part rfl rfl H rfl (k := 2) rfl Tryd.underlying39 rfl 12 (by kernel_rfl) rfl (by simp only [List.drop_succ_cons, List.drop_zero, List.take_succ_cons, List.take_zero]; rfl) ?_
      | refine hb_part rfl rfl H rfl (k := 2) rfl Tryd.underlying40 rfl 4 (by kernel_rfl) rfl (by simp only [List.drop_succ_cons, List.drop_zero, List.take_succ_cons, List.take_zero]; rfl) ?_)
   | ((with_reducible refine gate_st rfl ?_); (first
      | refine hb_storeRow rfl rfl rfl H rfl (k := 0) rfl rfl (by kernel_rfl) rfl (by rfl) ?_
      | refine hb_storeRow rfl rfl rfl H rfl (k := 1) rfl rfl (by kernel_rfl) rfl (by rfl) ?_
      | refine hb_storeI rfl rfl rfl H rfl (k := 0) rfl rfl (by kernel_rfl) rfl ?_
      | refine hb_storeS rfl rfl rfl H rfl (k := 0) rfl rfl (by kernel_rfl) rfl ?_
      | refine hb_storePart (t := 39) rfl rfl rfl H rfl (k := 0) rfl rfl (by kernel_rfl) rfl rfl ?_
      | refine hb_storePart (t := 40) rfl rfl rfl H rfl (k := 0) rfl rfl (by kernel_rfl) rfl rfl ?_); intro W1 H1; clear H; simp only [List.setIfInBounds_toArray, List.set_cons_zero, List.set_cons_succ] at H1; (try simp only [putAt, List.length_cons, List.length_nil, Nat.reduceAdd, List.take_succ_cons, List.take_zero, List.drop_succ_cons, List.drop_zero, List.nil_append, List.cons_append] at H1); have H := H1; clear H1))
    refine bodyPost_ret (results_single rfl (.cell _ _ _ _ _ rfl (H.get (k := 1) rfl) hu42 rfl (by kernel_rfl) .nil)) rfl ⟨?_, H.below⟩
    rw [HR.out]
    (try simp only [beq_eq_false_iff_ne] at z0 z1 z2 z3 z4 z5)
    simp [stepA, oC, oS, oK, *]
end Go.Proofs.YtkkjjogbfjahgaaDoor.Sm
set_option linter.unusedVariables false
set_option linter.unusedSimpArgs false
/- Plain: what the program's Put lays; what the reference's lays of its own form of the same steps. -/
namespace Go.Proofs.YtkkjjogbfjahgaaDoor.Sm
open Go Go.Proofs Go.RowKit Go.Proofs.CodBytes Go.Proofs.YtkkjjogbfjahgaaDoorW.PrintWords Go.Proofs.YtkkjjogbfjahgaaDoorW.PrintLast Go.Proofs.YtkkjjogbfjahgaaDoorW.PrintMore Go.Proofs.YtkkjjogbfjahgaaDoor.PSc Go.Proofs.YtkkjjogbfjahgaaDoor.CodSame
def textB (bs : List Int) : List Int := bytesI (bs.length : Int) ++ bs
def toT (x : S39) : Int × Int × Int × Int × Int × Int × Int × Int × Int × Int × Int × Bool := (x.f0, x.f1, x.f2, x.f3, x.f4, x.f5, x.f6, x.f7, x.f8, x.f9, x.f10, x.f11)
def flagI (b : Bool) : Int := if b = true then 1 else 0
def numsC (x : S39) : List Int := [x.f0, x.f1, x.f2, x.f3, x.f4, x.f5, x.f6, x.f7, x.f8, x.f9, x.f10, flagI x.f11]
theorem clean_f (k : Nat) (x : S39) : cmd_Command_Clean.f k x.f0 x.f1 x.f2 x.f3 x.f4 x.f5 x.f6 x.f7 x.f8 x.f9 x.f10 x.f11 = some (toT (cleanC x)) := rfl
theorem numbers_f (x : S39) : cmd_Command_numbers.f x.f0 x.f1 x.f2 x.f3 x.f4 x.f5 x.f6 x.f7 x.f8 x.f9 x.f10 x.f11 = some (x.f0, x.f1, x.f2, x.f3, x.f4, x.f5, x.f6, x.f7, x.f8, x.f9, x.f10, flagI x.f11) := by
  unfold cmd_Command_numbers.f cmd_flag.f flagI
  cases x.f11 <;> rfl
def Cmd64 (x : S39) : Prop := I64 x.f0 ∧ I64 x.f1 ∧ I64 x.f2 ∧ I64 x.f3 ∧ I64 x.f4 ∧ I64 x.f5 ∧ I64 x.f6 ∧ I64 x.f7 ∧ I64 x.f8 ∧ I64 x.f9 ∧ I64 x.f10
theorem Cmd64.clean {x : S39} (h : Cmd64 x) : Cmd64 (cleanC x) := by
  obtain ⟨h0, h1, h2, h3, h4, h5, h6, h7, h8, h9, h10⟩ := h
  have hz : I64 0 := by unfold I64; omega
  have n : ∀ j : Int, 0 ≤ j → j ≤ 12 → I64 j := by intro j a b; unfold I64; omega
  unfold cleanC Cmd64
  repeat' split
  all_goals (refine ⟨?_, ?_, ?_, ?_, ?_, ?_, ?_, ?_, ?_, ?_, ?_⟩ <;> (try dsimp only) <;> first | assumption | exact hz | exact n _ (by decide) (by decide))
theorem Cmd64.nums {x : S39} (h : Cmd64 x) : ∀ v ∈ numsC x, I64 v := by
  obtain ⟨h0, h1, h2, h3, h4, h5, h6, h7, h8, h9, h10⟩ := h
  intro v hv
  simp only [numsC, List.mem_cons, List.not_mem_nil, or_false] at hv
  have hf : I64 (flagI x.f11) := by unfold flagI I64; split <;> omega
  rcases hv with rfl | rfl | rfl | rfl | rfl | rfl | rfl | rfl | rfl | rfl | rfl | rfl <;> assumption
theorem bytes_str (bs : List Int) (hb : ∀ x ∈ bs, 0 ≤ x ∧ x < 256) : bytesOf (strOfNums bs) = bs := by
  unfold bytesOf strOfNums
  simp only [List.map_map]
  refine (List.map_congr_left (fun x hx => ?_)).trans (List.map_id bs)
  have := hb x hx
  simp only [Function.comp, id]
  have e : (UInt8.ofNat x.toNat).toNat = x.toNat := by rw [UInt8.toNat_ofNat']; omega
  rw [e]; omega
theorem clone_f (bs : List Int) (hm : bs.length < 140737488355328) : slices_Clone_byte_byte.f bs = some bs := by
  unfold slices_Clone_byte_byte.f
  simp only [Option.bind_some, List.length_nil, Nat.zero_add, List.nil_append]
  rw [if_pos hm]
theorem put_int_l : ∀ (n k : Nat) (l : List Int) (u : Int), 0 ≤ u → u < 128 ^ (n + 1) → n < k → l.length + n < 140737488355328 → coding_put_int.l0 k l u = some (l ++ enc n u)
  | 0, k, l, u, h0, h1, hk, hl => by
    obtain ⟨k, rfl⟩ : ∃ m, k = m + 1 := ⟨k - 1, by omega⟩
    simp only [coding_put_int.l0]
    rw [if_neg (by omega), if_pos (by omega)]
    simp only [enc]; rw [show u % 256 = u by omega]
  | n + 1, k, l, u, h0, h1, hk, hl => by
    obtain ⟨k, rfl⟩ : ∃ m, k = m + 1 := ⟨k - 1, by omega⟩
    simp only [coding_put_int.l0, enc]
    by_cases h : u ≥ 128
    · rw [if_pos h, if_pos h, if_pos (by omega)]
      have e : (128 : Int) ^ (n + 1 + 1) = 128 ^ (n + 1) * 128 := by rw [Int.pow_succ]
      rw [e] at h1
      rw [put_int_l n k _ (u / 128) (by omega) (by generalize (128 : Int) ^ (n + 1) = p at *; omega) (by omega) (by simp; omega)]
      rw [or128 _ (by omega) (by omega), show u % 256 % 128 = u % 128 by omega, List.append_assoc]; rfl
    · rw [if_neg h, if_neg h, if_pos (by omega), show u % 256 = u by omega]
theorem putText_f (k : Nat) (l : List Int) (a : ByteArray) (hk : 10 ≤ k) (ha : a.size ≤ 65536) (hl : l.length < 1000000000) : coding_PutText.f k l a = some (l ++ textB (bytesOf a)) := by
  unfold coding_PutText.f
  have hw : wrap64 (2 * (a.size : Int)) = 2 * (a.size : Int) := by unfold wrap64; omega
  have hF : coding_put_int.f k l (2 * (a.size : Int)) = some (l ++ enc 9 (2 * (a.size : Int))) := put_int_l 9 k l _ (by omega) (by omega) (by omega) (by omega)
  have hlen := (enc_length 9 (2 * (a.size : Int))).1
  rw [clone_f l (by omega), Option.bind_some, hw, hF, Option.bind_some, if_pos (by rw [List.length_append]; omega)]
  unfold textB bytesI
  rw [bytesOf_length]
  have : foldI (a.size : Int) = 2 * (a.size : Int) := by unfold foldI; rw [if_neg (by omega)]
  rw [this, List.append_assoc]
theorem layI_cons (v : Int) (r : List Int) : layI (v :: r) = bytesI v ++ layI r := rfl
theorem layI_bytes : ∀ (ns : List Int), (∀ v ∈ ns, I64 v) → ∀ x ∈ layI ns, 0 ≤ x ∧ x < 256
  | [], _, x, hx => by simp [layI] at hx
  | v :: r, h, x, hx => by
    rw [layI_cons] at hx
    rcases List.mem_append.1 hx with hx | hx
    · exact bytesI_bytes v (h v (List.mem_cons_self ..)) x hx
    · exact layI_bytes r (fun y hy => h y (List.mem_cons_of_mem _ hy)) x hx
theorem cmd_Put_0 (k : Nat) (pre : List Int) (v0 v1 v2 v3 v4 v5 v6 v7 v8 v9 v10 v11 : Int) (h : I64 v0) (hk : 10 ≤ k) (hp : pre.length + 10 < 140737488355328) : cmd_Put.l0 (k + 1) pre 0 v0 v1 v2 v3 v4 v5 v6 v7 v8 v9 v10 v11 = cmd_Put.l0 k (pre ++ bytesI v0) 1 v0 v1 v2 v3 v4 v5 v6 v7 v8 v9 v10 v11 := by
  rw [cmd_Put.l0, if_pos (by decide), if_pos rfl, putInt_f k pre v0 h hk hp, Option.bind_some, show wrap64 ((0 : Int) + 1) = 1 by unfold wrap64; omega]
theorem cmd_Put_1 (k : Nat) (pre : List Int) (v0 v1 v2 v3 v4 v5 v6 v7 v8 v9 v10 v11 : Int) (h : I64 v1) (hk : 10 ≤ k) (hp : pre.length + 10 < 140737488355328) : cmd_Put.l0 (k + 1) pre 1 v0 v1 v2 v3 v4 v5 v6 v7 v8 v9 v10 v11 = cmd_Put.l0 k (pre ++ bytesI v1) 2 v0 v1 v2 v3 v4 v5 v6 v7 v8 v9 v10 v11 := by
  rw [cmd_Put.l0, if_pos (by decide), if_neg (by decide), if_pos rfl, putInt_f k pre v1 h hk hp, Option.bind_some, show wrap64 ((1 : Int) + 1) = 2 by unfold wrap64; omega]
theorem cmd_Put_2 (k : Nat) (pre : List Int) (v0 v1 v2 v3 v4 v5 v6 v7 v8 v9 v10 v11 : Int) (h : I64 v2) (hk : 10 ≤ k) (hp : pre.length + 10 < 140737488355328) : cmd_Put.l0 (k + 1) pre 2 v0 v1 v2 v3 v4 v5 v6 v7 v8 v9 v10 v11 = cmd_Put.l0 k (pre ++ bytesI v2) 3 v0 v1 v2 v3 v4 v5 v6 v7 v8 v9 v10 v11 := by
  rw [cmd_Put.l0, if_pos (by decide), if_neg (by decide), if_neg (by decide), if_pos rfl, putInt_f k pre v2 h hk hp, Option.bind_some, show wrap64 ((2 : Int) + 1) = 3 by unfold wrap64; omega]
theorem cmd_Put_3 (k : Nat) (pre : List Int) (v0 v1 v2 v3 v4 v5 v6 v7 v8 v9 v10 v11 : Int) (h : I64 v3) (hk : 10 ≤ k) (hp : pre.length + 10 < 140737488355328) : cmd_Put.l0 (k + 1) pre 3 v0 v1 v2 v3 v4 v5 v6 v7 v8 v9 v10 v11 = cmd_Put.l0 k (pre ++ bytesI v3) 4 v0 v1 v2 v3 v4 v5 v6 v7 v8 v9 v10 v11 := by
  rw [cmd_Put.l0, if_pos (by decide), if_neg (by decide), if_neg (by decide), if_neg (by decide), if_pos rfl, putInt_f k pre v3 h hk hp, Option.bind_some, show wrap64 ((3 : Int) + 1) = 4 by unfold wrap64; omega]
theorem cmd_Put_4 (k : Nat) (pre : List Int) (v0 v1 v2 v3 v4 v5 v6 v7 v8 v9 v10 v11 : Int) (h : I64 v4) (hk : 10 ≤ k) (hp : pre.length + 10 < 140737488355328) : cmd_Put.l0 (k + 1) pre 4 v0 v1 v2 v3 v4 v5 v6 v7 v8 v9 v10 v11 = cmd_Put.l0 k (pre ++ bytesI v4) 5 v0 v1 v2 v3 v4 v5 v6 v7 v8 v9 v10 v11 := by
  rw [cmd_Put.l0, if_pos (by decide), if_neg (by decide), if_neg (by decide), if_neg (by decide), if_neg (by decide), if_pos rfl, putInt_f k pre v4 h hk hp, Option.bind_some, show wrap64 ((4 : Int) + 1) = 5 by unfold wrap64; omega]
theorem cmd_Put_5 (k : Nat) (pre : List Int) (v0 v1 v2 v3 v4 v5 v6 v7 v8 v9 v10 v11 : Int) (h : I64 v5) (hk : 10 ≤ k) (hp : pre.length + 10 < 140737488355328) : cmd_Put.l0 (k + 1) pre 5 v0 v1 v2 v3 v4 v5 v6 v7 v8 v9 v10 v11 = cmd_Put.l0 k (pre ++ bytesI v5) 6 v0 v1 v2 v3 v4 v5 v6 v7 v8 v9 v10 v11 := by
  rw [cmd_Put.l0, if_pos (by decide), if_neg (by decide), if_neg (by decide), if_neg (by decide), if_neg (by decide), if_neg (by decide), if_pos rfl, putInt_f k pre v5 h hk hp, Option.bind_some, show wrap64 ((5 : Int) + 1) = 6 by unfold wrap64; omega]
theorem cmd_Put_6 (k : Nat) (pre : List Int) (v0 v1 v2 v3 v4 v5 v6 v7 v8 v9 v10 v11 : Int) (h : I64 v6) (hk : 10 ≤ k) (hp : pre.length + 10 < 140737488355328) : cmd_Put.l0 (k + 1) pre 6 v0 v1 v2 v3 v4 v5 v6 v7 v8 v9 v10 v11 = cmd_Put.l0 k (pre ++ bytesI v6) 7 v0 v1 v2 v3 v4 v5 v6 v7 v8 v9 v10 v11 := by
  rw [cmd_Put.l0, if_pos (by decide), if_neg (by decide), if_neg (by decide), if_neg (by decide), if_neg (by decide), if_neg (by decide), if_neg (by decide), if_pos rfl, putInt_f k pre v6 h hk hp, Option.bind_some, show wrap64 ((6 : Int) + 1) = 7 by unfold wrap64; omega]
theorem cmd_Put_7 (k : Nat) (pre : List Int) (v0 v1 v2 v3 v4 v5 v6 v7 v8 v9 v10 v11 : Int) (h : I64 v7) (hk : 10 ≤ k) (hp : pre.length + 10 < 140737488355328) : cmd_Put.l0 (k + 1) pre 7 v0 v1 v2 v3 v4 v5 v6 v7 v8 v9 v10 v11 = cmd_Put.l0 k (pre ++ bytesI v7) 8 v0 v1 v2 v3 v4 v5 v6 v7 v8 v9 v10 v11 := by
  rw [cmd_Put.l0, if_pos (by decide), if_neg (by decide), if_neg (by decide), if_neg (by decide), if_neg (by decide), if_neg (by decide), if_neg (by decide), if_neg (by decide), if_pos rfl, putInt_f k pre v7 h hk hp, Option.bind_some, show wrap64 ((7 : Int) + 1) = 8 by unfold wrap64; omega]
theorem cmd_Put_8 (k : Nat) (pre : List Int) (v0 v1 v2 v3 v4 v5 v6 v7 v8 v9 v10 v11 : Int) (h : I64 v8) (hk : 10 ≤ k) (hp : pre.length + 10 < 140737488355328) : cmd_Put.l0 (k + 1) pre 8 v0 v1 v2 v3 v4 v5 v6 v7 v8 v9 v10 v11 = cmd_Put.l0 k (pre ++ bytesI v8) 9 v0 v1 v2 v3 v4 v5 v6 v7 v8 v9 v10 v11 := by
  rw [cmd_Put.l0, if_pos (by decide), if_neg (by decide), if_neg (by decide), if_neg (by decide), if_neg (by decide), if_neg (by decide), if_neg (by decide), if_neg (by decide), if_neg (by decide), if_pos rfl, putInt_f k pre v8 h hk hp, Option.bind_some, show wrap64 ((8 : Int) + 1) = 9 by unfold wrap64; omega]
theorem cmd_Put_9 (k : Nat) (pre : List Int) (v0 v1 v2 v3 v4 v5 v6 v7 v8 v9 v10 v11 : Int) (h : I64 v9) (hk : 10 ≤ k) (hp : pre.length + 10 < 140737488355328) : cmd_Put.l0 (k + 1) pre 9 v0 v1 v2 v3 v4 v5 v6 v7 v8 v9 v10 v11 = cmd_Put.l0 k (pre ++ bytesI v9) 10 v0 v1 v2 v3 v4 v5 v6 v7 v8 v9 v10 v11 := by
  rw [cmd_Put.l0, if_pos (by decide), if_neg (by decide), if_neg (by decide), if_neg (by decide), if_neg (by decide), if_neg (by decide), if_neg (by decide), if_neg (by decide), if_neg (by decide), if_neg (by decide), if_pos rfl, putInt_f k pre v9 h hk hp, Option.bind_some, show wrap64 ((9 : Int) + 1) = 10 by unfold wrap64; omega]
theorem cmd_Put_10 (k : Nat) (pre : List Int) (v0 v1 v2 v3 v4 v5 v6 v7 v8 v9 v10 v11 : Int) (h : I64 v10) (hk : 10 ≤ k) (hp : pre.length + 10 < 140737488355328) : cmd_Put.l0 (k + 1) pre 10 v0 v1 v2 v3 v4 v5 v6 v7 v8 v9 v10 v11 = cmd_Put.l0 k (pre ++ bytesI v10) 11 v0 v1 v2 v3 v4 v5 v6 v7 v8 v9 v10 v11 := by
  rw [cmd_Put.l0, if_pos (by decide), if_neg (by decide), if_neg (by decide), if_neg (by decide), if_neg (by decide), if_neg (by decide), if_neg (by decide), if_neg (by decide), if_neg (by decide), if_neg (by decide), if_neg (by decide), if_pos rfl, putInt_f k pre v10 h hk hp, Option.bind_some, show wrap64 ((10 : Int) + 1) = 11 by unfold wrap64; omega]
theorem cmd_Put_11 (k : Nat) (pre : List Int) (v0 v1 v2 v3 v4 v5 v6 v7 v8 v9 v10 v11 : Int) (h : I64 v11) (hk : 10 ≤ k) (hp : pre.length + 10 < 140737488355328) : cmd_Put.l0 (k + 1) pre 11 v0 v1 v2 v3 v4 v5 v6 v7 v8 v9 v10 v11 = cmd_Put.l0 k (pre ++ bytesI v11) 12 v0 v1 v2 v3 v4 v5 v6 v7 v8 v9 v10 v11 := by
  rw [cmd_Put.l0, if_pos (by decide), if_neg (by decide), if_neg (by decide), if_neg (by decide), if_neg (by decide), if_neg (by decide), if_neg (by decide), if_neg (by decide), if_neg (by decide), if_neg (by decide), if_neg (by decide), if_neg (by decide), if_pos rfl, putInt_f k pre v11 h hk hp, Option.bind_some, show wrap64 ((11 : Int) + 1) = 12 by unfold wrap64; omega]
theorem cput_f (k : Nat) (hk : 40 ≤ k) (x : S39) (h : Cmd64 (cleanC x)) : cmd_Put.f k x.f0 x.f1 x.f2 x.f3 x.f4 x.f5 x.f6 x.f7 x.f8 x.f9 x.f10 x.f11 = some (layI (numsC (cleanC x))) := by
  obtain ⟨k, rfl⟩ : ∃ m, k = m + 13 := ⟨k - 13, by omega⟩
  have hn := h.nums
  unfold cmd_Put.f
  rw [clean_f, Option.bind_some]
  simp only [toT]
  rw [numbers_f, Option.bind_some]
  unfold numsC at hn ⊢
  generalize cleanC x = y at hn
  simp only
  have hb := bytesI_length
  have g0 := hb y.f0
  have g1 := hb y.f1
  have g2 := hb y.f2
  have g3 := hb y.f3
  have g4 := hb y.f4
  have g5 := hb y.f5
  have g6 := hb y.f6
  have g7 := hb y.f7
  have g8 := hb y.f8
  have g9 := hb y.f9
  have g10 := hb y.f10
  have g11 := hb (flagI y.f11)
  simp only [List.mem_cons, List.not_mem_nil, or_false] at hn
  rw [cmd_Put_0 (k + 12) _ y.f0 y.f1 y.f2 y.f3 y.f4 y.f5 y.f6 y.f7 y.f8 y.f9 y.f10 (flagI y.f11) (hn _ (by simp)) (by omega) (by simp only [List.length_append, List.length_nil]; omega)]
  rw [cmd_Put_1 (k + 11) _ y.f0 y.f1 y.f2 y.f3 y.f4 y.f5 y.f6 y.f7 y.f8 y.f9 y.f10 (flagI y.f11) (hn _ (by simp)) (by omega) (by simp only [List.length_append, List.length_nil]; omega)]
  rw [cmd_Put_2 (k + 10) _ y.f0 y.f1 y.f2 y.f3 y.f4 y.f5 y.f6 y.f7 y.f8 y.f9 y.f10 (flagI y.f11) (hn _ (by simp)) (by omega) (by simp only [List.length_append, List.length_nil]; omega)]
  rw [cmd_Put_3 (k + 9) _ y.f0 y.f1 y.f2 y.f3 y.f4 y.f5 y.f6 y.f7 y.f8 y.f9 y.f10 (flagI y.f11) (hn _ (by simp)) (by omega) (by simp only [List.length_append, List.length_nil]; omega)]
  rw [cmd_Put_4 (k + 8) _ y.f0 y.f1 y.f2 y.f3 y.f4 y.f5 y.f6 y.f7 y.f8 y.f9 y.f10 (flagI y.f11) (hn _ (by simp)) (by omega) (by simp only [List.length_append, List.length_nil]; omega)]
  rw [cmd_Put_5 (k + 7) _ y.f0 y.f1 y.f2 y.f3 y.f4 y.f5 y.f6 y.f7 y.f8 y.f9 y.f10 (flagI y.f11) (hn _ (by simp)) (by omega) (by simp only [List.length_append, List.length_nil]; omega)]
  rw [cmd_Put_6 (k + 6) _ y.f0 y.f1 y.f2 y.f3 y.f4 y.f5 y.f6 y.f7 y.f8 y.f9 y.f10 (flagI y.f11) (hn _ (by simp)) (by omega) (by simp only [List.length_append, List.length_nil]; omega)]
  rw [cmd_Put_7 (k + 5) _ y.f0 y.f1 y.f2 y.f3 y.f4 y.f5 y.f6 y.f7 y.f8 y.f9 y.f10 (flagI y.f11) (hn _ (by simp)) (by omega) (by simp only [List.length_append, List.length_nil]; omega)]
  rw [cmd_Put_8 (k + 4) _ y.f0 y.f1 y.f2 y.f3 y.f4 y.f5 y.f6 y.f7 y.f8 y.f9 y.f10 (flagI y.f11) (hn _ (by simp)) (by omega) (by simp only [List.length_append, List.length_nil]; omega)]
  rw [cmd_Put_9 (k + 3) _ y.f0 y.f1 y.f2 y.f3 y.f4 y.f5 y.f6 y.f7 y.f8 y.f9 y.f10 (flagI y.f11) (hn _ (by simp)) (by omega) (by simp only [List.length_append, List.length_nil]; omega)]
  rw [cmd_Put_10 (k + 2) _ y.f0 y.f1 y.f2 y.f3 y.f4 y.f5 y.f6 y.f7 y.f8 y.f9 y.f10 (flagI y.f11) (hn _ (by simp)) (by omega) (by simp only [List.length_append, List.length_nil]; omega)]
  rw [cmd_Put_11 (k + 1) _ y.f0 y.f1 y.f2 y.f3 y.f4 y.f5 y.f6 y.f7 y.f8 y.f9 y.f10 (flagI y.f11) (hn _ (by simp)) (by omega) (by simp only [List.length_append, List.length_nil]; omega)]
  rw [cmd_Put.l0, if_neg (by decide)]
  simp only [layI, List.flatMap_cons, List.flatMap_nil, List.append_assoc, List.nil_append, List.append_nil]
theorem script_put_0 (k : Nat) (pre : List Int) (v0 v1 v2 v3 : Int) (h : I64 v0) (hk : 10 ≤ k) (hp : pre.length + 10 < 140737488355328) : script_put.l0 (k + 1) pre 0 v0 v1 v2 v3 = script_put.l0 k (pre ++ bytesI v0) 1 v0 v1 v2 v3 := by
  rw [script_put.l0, if_pos (by decide), if_pos rfl, putInt_f k pre v0 h hk hp, Option.bind_some, show wrap64 ((0 : Int) + 1) = 1 by unfold wrap64; omega]
theorem script_put_1 (k : Nat) (pre : List Int) (v0 v1 v2 v3 : Int) (h : I64 v1) (hk : 10 ≤ k) (hp : pre.length + 10 < 140737488355328) : script_put.l0 (k + 1) pre 1 v0 v1 v2 v3 = script_put.l0 k (pre ++ bytesI v1) 2 v0 v1 v2 v3 := by
  rw [script_put.l0, if_pos (by decide), if_neg (by decide), if_pos rfl, putInt_f k pre v1 h hk hp, Option.bind_some, show wrap64 ((1 : Int) + 1) = 2 by unfold wrap64; omega]
theorem script_put_2 (k : Nat) (pre : List Int) (v0 v1 v2 v3 : Int) (h : I64 v2) (hk : 10 ≤ k) (hp : pre.length + 10 < 140737488355328) : script_put.l0 (k + 1) pre 2 v0 v1 v2 v3 = script_put.l0 k (pre ++ bytesI v2) 3 v0 v1 v2 v3 := by
  rw [script_put.l0, if_pos (by decide), if_neg (by decide), if_neg (by decide), if_pos rfl, putInt_f k pre v2 h hk hp, Option.bind_some, show wrap64 ((2 : Int) + 1) = 3 by unfold wrap64; omega]
theorem script_put_3 (k : Nat) (pre : List Int) (v0 v1 v2 v3 : Int) (h : I64 v3) (hk : 10 ≤ k) (hp : pre.length + 10 < 140737488355328) : script_put.l0 (k + 1) pre 3 v0 v1 v2 v3 = script_put.l0 k (pre ++ bytesI v3) 4 v0 v1 v2 v3 := by
  rw [script_put.l0, if_pos (by decide), if_neg (by decide), if_neg (by decide), if_neg (by decide), if_pos rfl, putInt_f k pre v3 h hk hp, Option.bind_some, show wrap64 ((3 : Int) + 1) = 4 by unfold wrap64; omega]
def bodyB (x : S42) : List Int :=
  if x.f0 = 0 then textB (layI (numsC (cleanC x.f1))) else if x.f0 = 1 then textB (bytesOf x.f2) else if x.f0 = 2 then bytesI x.f3 else if x.f0 = 3 then layI [x.f4.f0, x.f4.f1, x.f4.f2, x.f4.f3] else []
def stepB (x : S42) : List Int := bytesI x.f0 ++ bodyB x
theorem layI12_len (x : S39) : (layI (numsC x)).length ≤ 120 := layI_len (numsC x)
/-- the numbers of a step are whole numbers of 64 bits -/
def Step64 (x : S42) : Prop := I64 x.f0 ∧ Cmd64 x.f1 ∧ I64 x.f3 ∧ I64 x.f4.f0 ∧ I64 x.f4.f1 ∧ I64 x.f4.f2 ∧ I64 x.f4.f3
def rightS (x : S42) : Bool :=
  if x.f0 = 0 then rightC x.f1 else if x.f0 = 1 then decide ((x.f2.size : Int) ≤ 264) else if x.f0 = 2 then true else if x.f0 = 3 then true else if x.f0 = 4 then true else if x.f0 = 5 then true else false
theorem rightS_f (k : Nat) (x : S42) : script_Step_Right.f k x.f0 x.f1.f0 x.f1.f1 x.f1.f2 x.f1.f3 x.f1.f4 x.f1.f5 x.f1.f6 x.f1.f7 x.f1.f8 x.f1.f9 x.f1.f10 x.f1.f11 x.f2 x.f3 x.f4.f0 x.f4.f1 x.f4.f2 x.f4.f3 = some (rightS x) := by
  unfold script_Step_Right.f rightS
  by_cases h0 : x.f0 = 0
  · rw [if_pos h0, if_pos h0]; rfl
  rw [if_neg h0, if_neg h0]
  repeat' split
  all_goals rfl
theorem rightS_kind {x : S42} (h : rightS x = true) : x.f0 = 0 ∨ x.f0 = 1 ∨ x.f0 = 2 ∨ x.f0 = 3 ∨ x.f0 = 4 ∨ x.f0 = 5 := by
  unfold rightS at h
  repeat' split at h
  all_goals first | omega | simp at h
theorem rightS_line {x : S42} (h : rightS x = true) (h1 : x.f0 = 1) : x.f2.size ≤ 264 := by
  unfold rightS at h
  rw [if_neg (by omega), if_pos h1] at h
  have := of_decide_eq_true h
  omega
theorem sput_f (k : Nat) (hk : 60 ≤ k) (pre : List Int) (hp : pre.length < 1000000) (x : S42) (h : rightS x = true) (h64 : Step64 x) : script_put.f k pre x.f0 x.f1.f0 x.f1.f1 x.f1.f2 x.f1.f3 x.f1.f4 x.f1.f5 x.f1.f6 x.f1.f7 x.f1.f8 x.f1.f9 x.f1.f10 x.f1.f11 x.f2 x.f3 x.f4.f0 x.f4.f1 x.f4.f2 x.f4.f3 = some (pre ++ stepB x) := by
  have hkd := rightS_kind h
  have hs := rightS_line h
  obtain ⟨_, hC, h3, k0, k1, k2, k3⟩ := h64
  have h0 : I64 x.f0 := by unfold I64; omega
  have hl := bytesI_length x.f0
  have h12 := layI12_len (cleanC x.f1)
  unfold script_put.f stepB bodyB
  rw [putInt_f k pre x.f0 h0 (by omega) (by omega), Option.bind_some]
  have hP : (pre ++ bytesI x.f0).length ≤ 1000010 := by rw [List.length_append]; omega
  rw [← List.append_assoc]
  generalize pre ++ bytesI x.f0 = P at hP
  by_cases e0 : x.f0 = 0
  · rw [if_pos e0, if_pos e0, cput_f k (by omega) x.f1 hC.clean, Option.bind_some, putText_f k P _ (by omega) (by rw [size_str]; omega) (by omega), Option.bind_some, bytes_str _ (layI_bytes _ hC.clean.nums)]
  rw [if_neg e0, if_neg e0]
  by_cases e1 : x.f0 = 1
  · rw [if_pos e1, if_pos e1, putText_f k P _ (by omega) (by have := hs e1; omega) (by omega), Option.bind_some]
  rw [if_neg e1, if_neg e1]
  by_cases e2 : x.f0 = 2
  · rw [if_pos e2, if_pos e2, putInt_f k P x.f3 h3 (by omega) (by omega), Option.bind_some]
  rw [if_neg e2, if_neg e2]
  by_cases e3 : x.f0 = 3
  · rw [if_pos e3, if_pos e3]
    obtain ⟨k, rfl⟩ : ∃ m, k = m + 5 := ⟨k - 5, by omega⟩
    have g0 := bytesI_length x.f4.f0
    have g1 := bytesI_length x.f4.f1
    have g2 := bytesI_length x.f4.f2
    rw [script_put_0 (k + 4) _ _ _ _ _ k0 (by omega) (by omega), script_put_1 (k + 3) _ _ _ _ _ k1 (by omega) (by rw [List.length_append]; omega), script_put_2 (k + 2) _ _ _ _ _ k2 (by omega) (by rw [List.length_append, List.length_append]; omega),
      script_put_3 (k + 1) _ _ _ _ _ k3 (by omega) (by rw [List.length_append, List.length_append, List.length_append]; omega), script_put.l0, if_neg (by decide)]
    simp only [layI, List.flatMap_cons, List.flatMap_nil, List.append_assoc, List.append_nil]
  rw [if_neg e3, if_neg e3, List.append_nil]
end Go.Proofs.YtkkjjogbfjahgaaDoor.Sm
set_option linter.unusedVariables false
set_option linter.unusedSimpArgs false
/- Plain: the program's Put and the reference's, of the same steps. -/
namespace Go.Proofs.YtkkjjogbfjahgaaDoor.Sm
open Go Go.Proofs Go.RowKit Go.Proofs.CodBytes Go.Proofs.YtkkjjogbfjahgaaDoorW.PrintWords Go.Proofs.YtkkjjogbfjahgaaDoorW.PrintLast Go.Proofs.YtkkjjogbfjahgaaDoorW.PrintMore Go.Proofs.YtkkjjogbfjahgaaDoor.PSc Go.Proofs.YtkkjjogbfjahgaaDoor.CodSame
def one42 (x : S42) : List Int := if rightS x = true then stepB x else []
theorem ownF_len (c : S39) : (ownF c).length = 11 := rfl
theorem right_step (x : S42) : rightRS (ownS x) = rightS x := by
  obtain ⟨k, c, ln, n, ks⟩ := x
  have hr := right_own c
  unfold rightRS rightS ownS
  dsimp only
  rw [hr]
  by_cases h0 : k = 0
  · subst h0; simp
  rw [if_neg h0]
  by_cases h1 : k = 1
  · subst h1
    simp
    omega
  rw [if_neg h1]
  by_cases h2 : k = 2
  · subst h2; simp
  rw [if_neg h2]
  by_cases h3 : k = 3
  · subst h3; simp
  rw [if_neg h3]
  by_cases h4 : k = 4
  · subst h4; simp
  rw [if_neg h4]
  by_cases h5 : k = 5
  · subst h5; simp
  rw [if_neg h5]
  by_cases hk : 0 ≤ k
  · have : decide (k ≤ 5) = false := decide_eq_false (by omega)
    rw [this]; simp [h2, h3, h4, h5]
  · rw [decide_eq_false hk]; simp [h2, h3, h4, h5]
theorem clean_step (x : S42) : ownS (cleanS x) = cleanRS (ownS x) := by
  obtain ⟨k, c, ln, n, ks⟩ := x
  have hr := clean_own c
  unfold cleanRS ownS cleanS
  dsimp only
  rw [hr]
  by_cases h0 : k = 0
  · subst h0; simp [oS, oC, oK]
  rw [if_neg h0, if_neg h0]
  by_cases h1 : k = 1
  · subst h1; simp [oS, oC, oK, ownF]
  rw [if_neg h1, if_neg h1]
  by_cases h2 : k = 2
  · subst h2; simp [oS, oC, oK, ownF]
  rw [if_neg h2, if_neg h2]
  by_cases h3 : k = 3
  · subst h3; simp [oS, oC, oK, ownF]
  rw [if_neg h3, if_neg h3]
  by_cases h45 : k = 4 ∨ k = 5
  · rw [if_pos h45, if_pos h45]; simp [oS, oC, oK, ownF, h3]
  rw [if_neg h45, if_neg h45]; simp [oS, oC, oK, ownF]
theorem nums_own (c : S39) : numsC (cleanC c) = (cleanR c.f0 (ownF c)).1 :: (cleanR c.f0 (ownF c)).2 := by
  rw [clean_own]; rfl
theorem cmd64_own {x : S39} (h : Cmd64 x) : I64 (cleanR x.f0 (ownF x)).1 ∧ ∀ v ∈ (cleanR x.f0 (ownF x)).2, I64 v := by
  have hn := h.clean.nums
  rw [nums_own] at hn
  exact ⟨hn _ (List.mem_cons_self ..), fun v hv => hn v (List.mem_cons_of_mem _ hv)⟩
theorem ref_step (x : S42) (h64 : Step64 x) : refB (ownS x) = one42 x := by
  obtain ⟨k, c, ln, n, ks⟩ := x
  unfold refB one42
  rw [right_step]
  obtain ⟨_, hC, _⟩ := h64
  have hb := layI_bytes _ hC.clean.nums
  by_cases hr : rightS ⟨k, c, ln, n, ks⟩ = true
  · rw [if_pos hr, if_pos hr]
    show bytesI k ++ bodyR _ = bytesI k ++ bodyB _
    congr 1
    unfold bodyR bodyB ownS
    dsimp only
    by_cases h0 : k = 0
    · rw [if_pos h0, if_pos h0]
      unfold textR textB cmdL
      rw [← nums_own, bytes_str _ hb, size_str]
    rw [if_neg h0, if_neg h0]
    by_cases h1 : k = 1
    · rw [if_pos h1, if_pos h1]
      unfold textR textB
      rw [bytesOf_length]
    rw [if_neg h1, if_neg h1]
    by_cases h2 : k = 2
    · rw [if_pos h2, if_pos h2, if_neg (by omega)]; rfl
    rw [if_neg h2, if_neg h2]
    by_cases h3 : k = 3
    · rw [if_pos h3, if_pos h3, if_pos h3]
    rw [if_neg h3, if_neg h3]
  · rw [if_neg hr, if_neg hr]
theorem in64_own {x : S42} (h : Step64 x) : In64 (ownS x) := by
  obtain ⟨h0, hC, h3, k0, k1, k2, k3⟩ := h
  refine ⟨cmd64_own hC, ?_⟩
  have hz : I64 0 := by unfold I64; omega
  unfold ownS
  dsimp only
  split
  · intro v hv
    simp only [List.mem_cons, List.not_mem_nil, or_false] at hv
    rcases hv with rfl | rfl | rfl | rfl <;> assumption
  · intro v hv
    simp only [List.mem_cons, List.not_mem_nil, or_false] at hv
    rcases hv with rfl | rfl | rfl | rfl <;> assumption
theorem one42_len (x : S42) (h64 : Step64 x) : (one42 x).length ≤ 300 := by
  rw [← ref_step x h64]
  exact refB_len _ rfl (by unfold ownS; dsimp only; split <;> rfl)
theorem rd42' (l : List S42) (i : Nat) (hi : i < l.length) : rd_T42 l (i : Int) = l[i] := by unfold rd_T42; simp [List.getD_eq_getElem?_getD, List.getElem?_eq_getElem hi]
theorem wrap_nat' (i : Nat) (hi : i < 4611686018427387904) : wrap64 ((i : Int) + 1) = ((i + 1 : Nat) : Int) := by unfold wrap64; omega
theorem put_l (l : List S42) (hn : l.length < 1000) (h : ∀ x ∈ l, Step64 x) : ∀ (d i k : Nat) (pre : List Int), i + d = l.length → d + 70 ≤ k → pre.length + 300 * d < 900000 →
    script_Put.l0 k pre l (l.length : Int) (i : Int) = some (pre ++ (l.drop i).flatMap one42)
  | 0, i, k, pre, hi, hk, hp => by
    obtain ⟨k, rfl⟩ : ∃ m, k = m + 1 := ⟨k - 1, by omega⟩
    rw [script_Put.l0, if_neg (by omega), List.drop_eq_nil_of_le (by omega)]
    exact congrArg some (List.append_nil _).symm
  | d + 1, i, k, pre, hi, hk, hp => by
    obtain ⟨k, rfl⟩ : ∃ m, k = m + 1 := ⟨k - 1, by omega⟩
    have hil : i < l.length := by omega
    have hx := h l[i] (List.getElem_mem hil)
    have hlen := one42_len l[i] hx
    rw [script_Put.l0, if_pos (by omega), if_pos (by omega), if_pos (by omega), rd42' l i hil, rightS_f k l[i], Option.bind_some, List.drop_eq_getElem_cons hil]
    unfold one42 at hlen ⊢
    rw [List.flatMap_cons]
    by_cases hr : rightS l[i] = true
    · rw [if_pos hr] at hlen
      rw [if_pos hr, if_pos hr, sput_f k (by omega) pre (by omega) l[i] hr hx, Option.bind_some, wrap_nat' i (by omega)]
      have := put_l l hn h d (i + 1) k (pre ++ stepB l[i]) (by omega) (by omega) (by rw [List.length_append]; omega)
      rw [this, List.append_assoc]
      rfl
    · rw [if_neg hr, if_neg hr, wrap_nat' i (by omega)]
      have := put_l l hn h d (i + 1) k pre (by omega) (by omega) (by omega)
      rw [this]
      rfl
theorem put_f (l : List S42) (hn : l.length < 1000) (h : ∀ x ∈ l, Step64 x) (k : Nat) (hk : l.length + 70 ≤ k) : script_Put.f k l = some (l.flatMap one42) :=
  (put_l l hn h l.length 0 k [] (by omega) (by omega) (by simp only [List.length_nil]; omega)).trans (by rw [List.drop_zero]; rfl)
end Go.Proofs.YtkkjjogbfjahgaaDoor.Sm
