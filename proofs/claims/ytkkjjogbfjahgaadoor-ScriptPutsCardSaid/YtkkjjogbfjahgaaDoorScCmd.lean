/- A part of the proofs over script (ScCmd): contracts of the program's functions and plain laws. Conditions: those that each theorem states. -/
import Derived.Test.YtkkjjogbfjahgaaDoorScRow
import Derived.Test.YtkkjjogbfjahgaaDoorPScx13
import Derived.Test.YtkkjjogbfjahgaaDoorPScx15
import Derived.Test.YtkkjjogbfjahgaaDoorPScx17
set_option linter.unusedVariables false
set_option linter.unusedSimpArgs false
/- cmd.Read, by hand. -/
namespace Go.Proofs.YtkkjjogbfjahgaaDoor.Sc
open Go Go.Proofs Go.RowKit Go.Proofs.YtkkjjogbfjahgaaDoorW.PrintWords Go.Proofs.YtkkjjogbfjahgaaDoorW.PrintLast Go.Proofs.YtkkjjogbfjahgaaDoorW.PrintMore Go.Proofs.YtkkjjogbfjahgaaDoor.Cur Go.Proofs.YtkkjjogbfjahgaaDoor.PSc

/-- so many numbers, and the cursor behind them -/
def intsN : Nat → List Int → Int → List Int × List Int × Int
  | 0, bs, e => ([], bs, e)
  | n + 1, bs, e => ((intOf bs e).1 :: (intsN n (intOf bs e).2.1 (intOf bs e).2.2).1, (intsN n (intOf bs e).2.1 (intOf bs e).2.2).2)
theorem intsN_len : ∀ (n : Nat) (bs : List Int) (e : Int), (intsN n bs e).1.length = n
  | 0, _, _ => rfl
  | n + 1, bs, e => by rw [intsN, List.length_cons, intsN_len n]
theorem intsN_step {n : Nat} {bs bs' : List Int} {e e' v : Int} (h : intOf bs e = (v, bs', e')) : intsN (n + 1) bs e = (v :: (intsN n bs' e').1, (intsN n bs' e').2) := by rw [intsN, h]
theorem list12 : ∀ (xs : List Int), xs.length = 12 → ∃ v0 v1 v2 v3 v4 v5 v6 v7 v8 v9 v10 v11, xs = [v0, v1, v2, v3, v4, v5, v6, v7, v8, v9, v10, v11]
  | [a, b, c, d, e, f, g, h, i, j, k, l], _ => ⟨a, b, c, d, e, f, g, h, i, j, k, l, rfl⟩
/-- the state of the reading: what was allocated at q, the cursor at p, the numbers' array at v -/
structure RI (w W : World) (q p v : Nat) (xs bs : List Int) (e : Int) : Prop where
  cur : CurIs W p bs e
  below : Below w.heap.size w W
  res : W.heap[q]? = some (.cells #[.int .i64 0, .int .i64 0, .int .i64 0, .int .i64 0, .int .i64 0, .int .i64 0, .int .i64 0, .int .i64 0, .int .i64 0, .int .i64 0, .int .i64 0, .bool false] 39 (0, 0))
  arr : W.heap[v]? = some (.cells (xs.map (Value.int .i64)).toArray 95 (0, 0))
  hb : ∀ x ∈ bs, 0 ≤ x ∧ x < 256
  errT : ErrT W
  hq : w.heap.size ≤ q
  hqp : q < p
  hpv : p < v
theorem map_set (xs : List Int) (i : Nat) (u : Int) : (xs.map (Value.int .i64)).toArray.setIfInBounds i (.int .i64 u) = ((xs.set i u).map (Value.int .i64)).toArray := by
  rw [List.setIfInBounds_toArray, List.map_set]
theorem RI.step {w W W1 : World} {q p v : Nat} {xs bs bs' : List Int} {e e' u : Int} (h : RI w W q p v xs bs e) (h0 : 0 < w.heap.size) (hc : CurIs W1 p bs' e') (ho : Only p W W1) (hb : ∀ x ∈ bs', 0 ≤ x ∧ x < 256) (i : Nat) :
    RI w (W1.setCell ⟨v, i, none⟩ (.int .i64 u)) q p v (xs.set i u) bs' e' := by
  have h1 := h.hq
  have h2 := h.hqp
  have h3 := h.hpv
  have o2 : Only v W1 (W1.setCell ⟨v, i, none⟩ (.int .i64 u)) := Only.set v i W1 _
  exact ⟨hc.same (fun k hk => o2.block k (by omega)), (h.below.trans (ho.below (by omega))).trans (o2.below (by omega)), blk_only (blk_only h.res ho (by omega)) o2 (by omega), blk_put (blk_only h.arr ho (by omega)) i _ (map_set xs i u), hb,
    (h.errT.belowN (n := p) (by omega) (ho.below (Nat.le_refl p))).belowN (n := v) (by omega) (o2.below (Nat.le_refl v)), h1, h2, h3⟩
theorem RI.bel {w W W1 : World} {q p v : Nat} {xs bs : List Int} {e : Int} (h : RI w W q p v xs bs e) (hB : Below W.heap.size W W1) : RI w W1 q p v xs bs e :=
  ⟨h.cur.below hB, below_step h.below hB, blk_below h.res hB, blk_below h.arr hB, h.hb, h.errT.below hB, h.hq, h.hqp, h.hpv⟩
theorem RI.far {w W W1 : World} {q p v g : Nat} {xs bs : List Int} {e : Int} (h : RI w W q p v xs bs e) (h0 : 0 < w.heap.size) (hg : v < g) (ho : Only g W W1) : RI w W1 q p v xs bs e := by
  have h1 := h.hq
  have h2 := h.hqp
  have h3 := h.hpv
  exact ⟨h.cur.same (fun k hk => ho.block k (by omega)), h.below.trans (ho.below (by omega)), blk_only h.res ho (by omega), blk_only h.arr ho (by omega), h.hb, h.errT.belowN (n := g) (by omega) (ho.below (Nat.le_refl g)), h1, h2, h3⟩
def rg.T9 : Bool × List (List Nat × List Nat) := (true, [([], []), ([0], [0]), ([1], [1]), ([2, 1], [2]), ([3], [3]), ([4, 3, 3], [3, 4]), ([5, 3], [3, 5]), ([3, 6], [3, 6]), ([7, 5], [7]), ([8], [8]), ([9, 8, 8], [8, 9]), ([10, 10, 8], [8, 10]), ([8], [8]), ([11, 12, 8], [8, 11, 12]), ([8, 13], [8, 13])])
def rg.B9 : List Nat := [0, 1, 3, 7, 15, 31, 63, 127, 255, 511, 1023, 2047, 511, 8191, 16383]
theorem rg.tab9 : rtab .any (opsOf Tryd.f34 9) = rg.T9 := by kernel_rfl
theorem rg.bits9 : waitsOk rg.T9.2 rg.B9 = true := by kernel_rfl
def cmdOf (v : List Int) : S39 := ⟨v.getD 0 0, v.getD 1 0, v.getD 2 0, v.getD 3 0, v.getD 4 0, v.getD 5 0, v.getD 6 0, v.getD 7 0, v.getD 8 0, v.getD 9 0, v.getD 10 0, v.getD 11 0 == 1⟩
set_option maxRecDepth 100000 in
theorem eqA95 (d : Nat) (w : World) (x0 y0 : Int) (x1 y1 : Int) (x2 y2 : Int) (x3 y3 : Int) (x4 y4 : Int) (x5 y5 : Int) (x6 y6 : Int) (x7 y7 : Int) (x8 y8 : Int) (x9 y9 : Int) (x10 y10 : Int) (x11 y11 : Int) :
    (Op.equalIn (d + 2) 95 (.agg #[.int .i64 x0, .int .i64 x1, .int .i64 x2, .int .i64 x3, .int .i64 x4, .int .i64 x5, .int .i64 x6, .int .i64 x7, .int .i64 x8, .int .i64 x9, .int .i64 x10, .int .i64 x11]) (.agg #[.int .i64 y0, .int .i64 y1, .int .i64 y2, .int .i64 y3, .int .i64 y4, .int .i64 y5, .int .i64 y6, .int .i64 y7, .int .i64 y8, .int .i64 y9, .int .i64 y10, .int .i64 y11])).run Tryd.prog w = .ok (x0 == y0 && (x1 == y1 && (x2 == y2 && (x3 == y3 && (x4 == y4 && (x5 == y5 && (x6 == y6 && (x7 == y7 && (x8 == y8 && (x9 == y9 && (x10 == y10 && (x11 == y11)))))))))))) w := by
  rw [show d + 2 = (d + 1) + 1 from rfl, run_equalIn_array w (d + 1) _ _ Tryd.underlying95 (by rfl), show Tryd.prog.cellsOf 2 = 1 by kernel_rfl]
  refine (eqI_cons Tryd.underlying2 rfl rfl (eqI_cons Tryd.underlying2 rfl rfl (eqI_cons Tryd.underlying2 rfl rfl (eqI_cons Tryd.underlying2 rfl rfl (eqI_cons Tryd.underlying2 rfl rfl (eqI_cons Tryd.underlying2 rfl rfl (eqI_cons Tryd.underlying2 rfl rfl (eqI_cons Tryd.underlying2 rfl rfl (eqI_cons Tryd.underlying2 rfl rfl (eqI_cons Tryd.underlying2 rfl rfl (eqI_cons Tryd.underlying2 rfl rfl (eqI_cons Tryd.underlying2 rfl rfl (eqI_nil))))))))))))).trans ?_
  rw [Bool.and_true]
attribute [local go_sem high] eqA95

set_option maxRecDepth 100000 in
set_option maxHeartbeats 32000000 in
theorem cmdRead_go (k : Nat) (A : Option Addr) (c : Nat) (l : List Int) (w : World) (hC : Kd.C (Kd.int .u8) w A l.length l) (hc : l.length ≤ c) (hm : l.length < 140737488355328) (hb : ∀ x ∈ l, 0 ≤ x ∧ x < 256) (hE : ErrT w) (y0 y1 y2 y3 y4 y5 y6 y7 y8 y9 y10 y11 : Int) (bsE : List Int) (eE : Int)
    (hR : intsN 12 l 0 = ([y0, y1, y2, y3, y4, y5, y6, y7, y8, y9, y10, y11], bsE, eE)) (b nb : Bool) (hrb : cmd_Command_Right.f k y0 y1 y2 y3 y4 y5 y6 y7 y8 y9 y10 (y11 == 1) = some b) (c0 c1 c2 c3 c4 c5 c6 c7 c8 c9 c10 : Int) (c11 : Bool) (n0 n1 n2 n3 n4 n5 n6 n7 n8 n9 n10 n11 : Int)
    (hcl : cmd_Command_Clean.f k y0 y1 y2 y3 y4 y5 y6 y7 y8 y9 y10 (y11 == 1) = some (c0, c1, c2, c3, c4, c5, c6, c7, c8, c9, c10, c11)) (hnu : cmd_Command_numbers.f c0 c1 c2 c3 c4 c5 c6 c7 c8 c9 c10 c11 = some (n0, n1, n2, n3, n4, n5, n6, n7, n8, n9, n10, n11)) (hnb : (!(n0 == y0) || (!(n1 == y1) || (!(n2 == y2) || (!(n3 == y3) || (!(n4 == y4) || (!(n5 == y5) || (!(n6 == y6) || (!(n7 == y7) || (!(n8 == y8) || (!(n9 == y9) || (!(n10 == y10) || (!(n11 == y11))))))))))))) = nb) (good : Bool) (hg : good = (decide (endOf bsE eE = 0) && (b && !nb))) (res : Value) (hres : (if good = true then Value.tuple #[.agg #[.int .i64 y0, .int .i64 y1, .int .i64 y2, .int .i64 y3, .int .i64 y4, .int .i64 y5, .int .i64 y6, .int .i64 y7, .int .i64 y8, .int .i64 y9, .int .i64 y10, .bool (y11 == 1)], .int .i64 0] else .tuple #[.agg #[.int .i64 0, .int .i64 0, .int .i64 0, .int .i64 0, .int .i64 0, .int .i64 0, .int .i64 0, .int .i64 0, .int .i64 0, .int .i64 0, .int .i64 0, .bool false], .int .i64 11]) = res) :
    Calls Tryd.prog 34 #[.slice A l.length c] w fun ev w' => ev = .returned res ∧ Below w.heap.size w w' := by
  have hw0 := hE.lt
  have hu39 := Tryd.underlying39
  have hu95 := Tryd.underlying95
  have hu2 := Tryd.underlying2
  have HB := Aside0.mk hb
  have HE := Aside0.mk hE
  have HR := Aside0.mk hR
  have HC := Aside0.mk hC
  have H1 := Aside0.mk hrb
  have H2 := Aside0.mk hcl
  have H3 := Aside0.mk hnu
  have H4 := Aside0.mk hnb
  have H5 := Aside0.mk hg
  have HQ := Aside0.mk hres
  clear hres hb hE hR hC hrb hcl hnu hnb hg
  go_enter Tryd.func34, Tryd.ntmps34
  go_wp2_with (first
    | ((with_reducible refine gate_dst (N := 2) rfl ?_); refine box_event rfl (N := 2) rfl (cs := #[.int .i64 0, .int .i64 0, .int .i64 0, .int .i64 0, .int .i64 0, .int .i64 0, .int .i64 0, .int .i64 0, .int .i64 0, .int .i64 0, .int .i64 0, .bool false]) (t := 39) (by first | (go_simp; done) | (go_simp; rfl)) ?_; intro q eq w1 b1 B1; have lwq : w.heap.size ≤ q := Nat.le_of_eq eq.symm; clear eq)
    | (go_at_call 16; refine (Cur.read_calls A c l _ (Kd.C_below HC.out B1) hc hm).mono ?_; rintro ev w2 ⟨p, rfl, hp, hcur, B2⟩; have b2 := blk_below b1 B2; have lq : q < p := Nat.lt_of_lt_of_le (blk_lt b1) hp; clear hp)
    | ((with_reducible refine gate_dst (N := 5) rfl ?_); refine box_event rfl (N := 5) rfl (cs := #[.int .i64 0, .int .i64 0, .int .i64 0, .int .i64 0, .int .i64 0, .int .i64 0, .int .i64 0, .int .i64 0, .int .i64 0, .int .i64 0, .int .i64 0, .int .i64 0]) (t := 95) (by first | (go_simp; done) | (go_simp; rfl)) ?_; intro v ev w3 b3 B3
       have lp : p < v := (by rw [ev]; exact hcur.lt)
       have S0 := Aside0.mk (show RI w w3 q p v [0, 0, 0, 0, 0, 0, 0, 0, 0, 0, 0, 0] l 0 from ⟨hcur.below B3, below_step (below_step B1 B2) B3, blk_below b2 B3, b3, HB.out, ((HE.out.below B1).below B2).below B3, lwq, lq, lp⟩)
       clear b1 b2 b3 B1 B2 B3 hcur lq lp lwq ev))
  go_loopw [10] (fun v10 wr => ∃ (i : Nat) (xs bs : List Int) (e : Int), v10 = .int .i64 (i : Int) ∧ i ≤ 12 ∧ xs.length = 12 ∧ (xs.take i ++ (intsN (12 - i) bs e).1, (intsN (12 - i) bs e).2) = ([y0, y1, y2, y3, y4, y5, y6, y7, y8, y9, y10, y11], bsE, eE) ∧ RI w wr q p v xs bs e) (fun v10 wr => 12 - natOf v10)
  case atStart => exact ⟨0, _, l, 0, rfl, by omega, rfl, HR.out, S0.out⟩
  case round =>
    obtain ⟨i, xs, bs, e, rfl, hi, hlen, hr, hS⟩ := hrel
    clear S0
    by_cases hlt : i < 12
    · obtain ⟨⟨u, bs', e'⟩, hint⟩ : ∃ r, Cur.intOf bs e = r := ⟨_, rfl⟩
      obtain ⟨m, hm⟩ : ∃ m, 12 - i = m + 1 := ⟨12 - i - 1, by omega⟩
      have hm2 : 12 - (i + 1) = m := by omega
      rw [hm, intsN_step hint] at hr
      have hb' : ∀ x ∈ bs', 0 ≤ x ∧ x < 256 := fun x hx => hS.hb x (intOf_sub bs e x (by rw [hint]; exact hx))
      have d1 : decide ((i : Int) < 12) = true := decide_eq_true (by omega)
      have d2 : (i : Int) < 12 := by omega
      have hix : i < xs.length := by omega
      have HI := Aside0.mk hint
      have HB2 := Aside0.mk hb'
      have HS := Aside0.mk hS
      have HR2 := Aside0.mk hr
      have HM2 := Aside0.mk hm2
      clear hint hb' hS hr hm hm2
      go_wp2_with (go_at_call 36; refine (int_calls p bs e _ HS.out.cur HS.out.hb).mono ?_; rw [HI.out]; rintro ev w4 ⟨rfl, hc4, ho4⟩
                   have S4 := Aside0.mk (HS.out.step (u := u) hw0 hc4 ho4 HB2.out i)
                   have q4 : w4.cell? ⟨v, i, none⟩ = some (.int .i64 xs[i]) := (blk_cell (blk_only HS.out.arr ho4 (by have := HS.out.hpv; omega)) i).trans (by simp [hix])
                   have f4 := blk_frozen (blk_only HS.out.arr ho4 (by have := HS.out.hpv; omega)) i
                   clear hc4 ho4)
      go_roundw
      case rel =>
        refine ⟨i + 1, xs.set i u, bs', e', by go_num, by omega, by rw [List.length_set]; exact hlen, ?_, S4.out⟩
        rw [HM2.out, ← HR2.out, List.take_set]
        congr 1
        rw [List.take_add_one, List.set_append_right _ _ (by rw [List.length_take]; omega), List.length_take, Nat.min_eq_left (by omega), Nat.sub_self, List.getElem?_eq_getElem hix]
        simp
      case measure => simp [natOf]; omega
    · obtain rfl : i = 12 := by omega
      obtain ⟨x0, x1, x2, x3, x4, x5, x6, x7, x8, x9, x10, x11, rfl⟩ := list12 xs hlen
      rw [Nat.sub_self] at hr
      simp only [intsN, List.append_nil, List.take_succ_cons, List.take_zero, Prod.mk.injEq, List.cons.injEq, and_true] at hr
      obtain ⟨⟨rfl, rfl, rfl, rfl, rfl, rfl, rfl, rfl, rfl, rfl, rfl, rfl⟩, rfl, rfl⟩ := hr
      have q0 : wr.cell? ⟨v, 0, none⟩ = some (.int .i64 x0) := (blk_cell hS.arr 0).trans rfl
      have q1 : wr.cell? ⟨v, 1, none⟩ = some (.int .i64 x1) := (blk_cell hS.arr 1).trans rfl
      have q2 : wr.cell? ⟨v, 2, none⟩ = some (.int .i64 x2) := (blk_cell hS.arr 2).trans rfl
      have q3 : wr.cell? ⟨v, 3, none⟩ = some (.int .i64 x3) := (blk_cell hS.arr 3).trans rfl
      have q4 : wr.cell? ⟨v, 4, none⟩ = some (.int .i64 x4) := (blk_cell hS.arr 4).trans rfl
      have q5 : wr.cell? ⟨v, 5, none⟩ = some (.int .i64 x5) := (blk_cell hS.arr 5).trans rfl
      have q6 : wr.cell? ⟨v, 6, none⟩ = some (.int .i64 x6) := (blk_cell hS.arr 6).trans rfl
      have q7 : wr.cell? ⟨v, 7, none⟩ = some (.int .i64 x7) := (blk_cell hS.arr 7).trans rfl
      have q8 : wr.cell? ⟨v, 8, none⟩ = some (.int .i64 x8) := (blk_cell hS.arr 8).trans rfl
      have q9 : wr.cell? ⟨v, 9, none⟩ = some (.int .i64 x9) := (blk_cell hS.arr 9).trans rfl
      have q10 : wr.cell? ⟨v, 10, none⟩ = some (.int .i64 x10) := (blk_cell hS.arr 10).trans rfl
      have q11 : wr.cell? ⟨v, 11, none⟩ = some (.int .i64 x11) := (blk_cell hS.arr 11).trans rfl
      have HS := Aside0.mk hS
      obtain ⟨er, hee⟩ : ∃ z, endOf bs e = z := ⟨_, rfl⟩
      rw [hee] at H5
      have HEE := Aside0.mk hee
      clear hS hee
      go_wp2_with (first
        | ((with_reducible refine gate_dst (N := 7) rfl ?_); refine box_event rfl (N := 7) rfl (cs := #[.int .i64 0, .int .i64 0, .int .i64 0, .int .i64 0, .int .i64 0, .int .i64 0, .int .i64 0, .int .i64 0, .int .i64 0, .int .i64 0, .int .i64 0, .bool false]) (t := 39) (by first | (go_simp; done) | (go_simp; rfl)) ?_; intro xg ex w5 b5 B5; have lx : v < xg := (by rw [ex]; exact blk_lt HS.out.arr); clear ex; have S5 := Aside0.mk (HS.out.bel B5))
        | ((with_reducible refine gate_op (x := .store 39 (.tmp 7) (.tmp 43)) rfl ?_); refine rowStore (by rfl) (by rfl) (by rfl) (t0 := 39) (g := xg) (cs := #[.int .i64 0, .int .i64 0, .int .i64 0, .int .i64 0, .int .i64 0, .int .i64 0, .int .i64 0, .int .i64 0, .int .i64 0, .int .i64 0, .int .i64 0, .bool false]) (cs' := #[.int .i64 x0, .int .i64 x1, .int .i64 x2, .int .i64 x3, .int .i64 x4, .int .i64 x5, .int .i64 x6, .int .i64 x7, .int .i64 x8, .int .i64 x9, .int .i64 x10, .bool (x11 == 1)]) (by rfl) (by rfl) b5 (by kernel_rfl) (by rfl) (by simp [Value.oneCell']) ?_; intro w6 b6 O6; have S6 := Aside0.mk (S5.out.far hw0 lx O6); clear b5 O6))
      clear q0 q1 q2 q3 q4 q5 q6 q7 q8 q9 q10 q11
      have HEND := Aside0.mk (fun W hB => (HEE.out ▸ end_calls p bs e W (S6.out.cur.below hB) (S6.out.errT.below hB) : Calls Tryd.prog 55 #[.pointer (some ⟨p, 0, none⟩)] W fun ev w' => ev = .returned (.int .i64 er) ∧ Below W.heap.size W w'))
      by_cases he0 : er = 0
      · subst he0
        cases b with
        | false =>
          have hgd : good = false := (by rw [H5.out]; rfl)
          subst hgd
          refine start_ (n := 15) (S := fun w' => Below w6.heap.size w6 w') (ds := []) #[false, false, false, false, false, false, false, false, false, false, false, false, false, false, false] (by kernel_rfl) rfl rfl (below_drew1 (Below.refl _ w6)) (fun hHeld => ?_); refine with_tabW rg.tab9 rg.bits9 (fun HT_ HW_ => ?_)
          refine pure_ (i := 0) (N := some 44) (v := ?_) (a' := ?_) #[true, false, false, false, false, false, false, false, false, false, false, false, false, false, false] rfl rfl (any_of HT_.out (by kernel_rfl)) (fun _ _ _ h => h) (Or.inl ⟨by rfl, ?_⟩) ?_ ?_
          rotate_left
          · intro w'
            go_simp
            with_reducible rfl
          rotate_left
          · simp only [Act.put, List.setIfInBounds_toArray, List.set_cons_zero, List.set_cons_succ, i64_w, i32_w]
            rfl
          refine one_ (i := 1) (N := some 45) #[true, true, false, false, false, false, false, false, false, false, false, false, false, false, false] rfl rfl (one_of HT_.out (by kernel_rfl)) (by decide) (fun K hK => ?_)
          refine goes_ Tryd.func55 (by kernel_rfl) rfl #[.pointer (some ⟨p, 0, none⟩)] (by rfl) rfl rfl (by (try simp only [List.map_toArray, List.map_cons, List.map_nil]); first | done | rfl | (simp only [List.length_drop, List.length_take]; rfl)) ?_
          with_reducible refine (HEND.out _ hHeld).mono ?_
          rintro ev w7 ⟨rfl, hb7⟩
          refine ⟨_, rfl, ?_⟩
          refine hK.out _ _ (below_step hHeld hb7) (fun hHeld => ?_)
          clear hK K
          refine norm_ (a' := ?_) ?_ ?_
          rotate_left
          · show Act.put _ (some 45) _ = _
            simp only [Act.put, List.setIfInBounds_toArray, List.set_cons_zero, List.set_cons_succ, i64_w, i32_w]
            rfl
          refine pure_ (i := 2) (N := some 46) (v := ?_) (a' := ?_) #[true, true, true, false, false, false, false, false, false, false, false, false, false, false, false] rfl rfl (any_of HT_.out (by kernel_rfl)) (fun _ _ _ h => h) (Or.inl ⟨by rfl, ?_⟩) ?_ ?_
          rotate_left
          · intro w'
            go_simp
            with_reducible rfl
          rotate_left
          · simp only [Act.put, List.setIfInBounds_toArray, List.set_cons_zero, List.set_cons_succ, i64_w, i32_w]
            rfl
          refine pure_ (i := 3) (N := some 47) (v := ?_) (a' := ?_) #[true, true, true, true, false, false, false, false, false, false, false, false, false, false, false] rfl rfl (any_of HT_.out (by kernel_rfl)) (fun _ _ _ h => h) (Or.inl ⟨by rfl, ?_⟩) ?_ ?_
          rotate_left
          · intro w'
            go_simp
            with_reducible rfl
          rotate_left
          · simp only [Act.put, List.setIfInBounds_toArray, List.set_cons_zero, List.set_cons_succ, i64_w, i32_w]
            rfl
          refine take_ (i := 4) (N := some 48) (v := ?_) (a' := ?_) #[true, true, true, true, true, false, false, false, false, false, false, false, false, false, false] rfl rfl (take_ofW HT_.out HW_.out (by kernel_rfl)) (fun _ _ _ h => h) (Or.inl ⟨by rfl, ?_⟩) hHeld ?_ ?_
          rotate_left
          · rintro w' s0
            have g0 : w'.cell? ⟨xg, 0, none⟩ = some (.int .i64 x0) := (blk_cell (blk_below b6 s0) 0).trans rfl
            have g1 : w'.cell? ⟨xg, 1, none⟩ = some (.int .i64 x1) := (blk_cell (blk_below b6 s0) 1).trans rfl
            have g2 : w'.cell? ⟨xg, 2, none⟩ = some (.int .i64 x2) := (blk_cell (blk_below b6 s0) 2).trans rfl
            have g3 : w'.cell? ⟨xg, 3, none⟩ = some (.int .i64 x3) := (blk_cell (blk_below b6 s0) 3).trans rfl
            have g4 : w'.cell? ⟨xg, 4, none⟩ = some (.int .i64 x4) := (blk_cell (blk_below b6 s0) 4).trans rfl
            have g5 : w'.cell? ⟨xg, 5, none⟩ = some (.int .i64 x5) := (blk_cell (blk_below b6 s0) 5).trans rfl
            have g6 : w'.cell? ⟨xg, 6, none⟩ = some (.int .i64 x6) := (blk_cell (blk_below b6 s0) 6).trans rfl
            have g7 : w'.cell? ⟨xg, 7, none⟩ = some (.int .i64 x7) := (blk_cell (blk_below b6 s0) 7).trans rfl
            have g8 : w'.cell? ⟨xg, 8, none⟩ = some (.int .i64 x8) := (blk_cell (blk_below b6 s0) 8).trans rfl
            have g9 : w'.cell? ⟨xg, 9, none⟩ = some (.int .i64 x9) := (blk_cell (blk_below b6 s0) 9).trans rfl
            have g10 : w'.cell? ⟨xg, 10, none⟩ = some (.int .i64 x10) := (blk_cell (blk_below b6 s0) 10).trans rfl
            have g11 : w'.cell? ⟨xg, 11, none⟩ = some (.bool (x11 == 1)) := (blk_cell (blk_below b6 s0) 11).trans rfl
            go_simp
            with_reducible rfl
          rotate_left
          · simp only [Act.put, List.setIfInBounds_toArray, List.set_cons_zero, List.set_cons_succ, i64_w, i32_w]
            rfl
          refine one_ (i := 5) (N := some 49) #[true, true, true, true, true, true, false, false, false, false, false, false, false, false, false] rfl rfl (one_of HT_.out (by kernel_rfl)) (by decide) (fun K hK => ?_)
          refine goes_ Tryd.func24 (by kernel_rfl) rfl #[.agg #[.int .i64 x0, .int .i64 x1, .int .i64 x2, .int .i64 x3, .int .i64 x4, .int .i64 x5, .int .i64 x6, .int .i64 x7, .int .i64 x8, .int .i64 x9, .int .i64 x10, .bool (x11 == 1)]] (by rfl) rfl rfl (by (try simp only [List.map_toArray, List.map_cons, List.map_nil]); first | done | rfl | (simp only [List.length_drop, List.length_take]; rfl)) ?_
          with_reducible refine (cmd_Command_Right.calls k x0 x1 x2 x3 x4 x5 x6 x7 x8 x9 x10 (x11 == 1) false _ H1.out).mono ?_
          rintro ev w8 ⟨rfl, hb8⟩
          refine ⟨_, rfl, ?_⟩
          refine hK.out _ _ (below_step hHeld hb8) (fun hHeld => ?_)
          clear hK K
          refine norm_ (a' := ?_) ?_ ?_
          rotate_left
          · show Act.put _ (some 49) _ = _
            simp only [Act.put, List.setIfInBounds_toArray, List.set_cons_zero, List.set_cons_succ, i64_w, i32_w]
            rfl
          refine pure_ (i := 6) (N := some 50) (v := ?_) (a' := ?_) #[true, true, true, true, true, true, true, false, false, false, false, false, false, false, false] rfl rfl (any_of HT_.out (by kernel_rfl)) (fun _ _ _ h => h) (Or.inl ⟨by rfl, ?_⟩) ?_ ?_
          rotate_left
          · intro w'
            go_simp
            with_reducible rfl
          rotate_left
          · simp only [Act.put, List.setIfInBounds_toArray, List.set_cons_zero, List.set_cons_succ, i64_w, i32_w]
            rfl
          refine pure_ (i := 7) (N := some 51) (v := ?_) (a' := ?_) #[true, true, true, true, true, true, true, true, false, false, false, false, false, false, false] rfl rfl (any_of HT_.out (by kernel_rfl)) (fun _ _ _ h => h) (Or.inl ⟨by rfl, ?_⟩) ?_ ?_
          rotate_left
          · intro w'
            go_simp
            with_reducible rfl
          rotate_left
          · simp only [Act.put, List.setIfInBounds_toArray, List.set_cons_zero, List.set_cons_succ, i64_w, i32_w]
            rfl
          refine pure_ (i := 8) (N := some 52) (v := ?_) (a' := ?_) #[true, true, true, true, true, true, true, true, true, false, false, false, false, false, false] rfl rfl (any_of HT_.out (by kernel_rfl)) (fun _ _ _ h => h) (Or.inl ⟨by rfl, ?_⟩) ?_ ?_
          rotate_left
          · intro w'
            go_simp
            with_reducible rfl
          rotate_left
          · simp only [Act.put, List.setIfInBounds_toArray, List.set_cons_zero, List.set_cons_succ, i64_w, i32_w]
            rfl
          refine pure_ (i := 9) (N := some 53) (v := undef) (a' := ?_) #[true, true, true, true, true, true, true, true, true, true, false, false, false, false, false] rfl rfl (any_of HT_.out (by kernel_rfl)) (fun _ _ _ h => h) (Or.inr ⟨by rfl, rfl⟩) ?_ ?_
          rotate_left
          · simp only [Act.put, List.setIfInBounds_toArray, List.set_cons_zero, List.set_cons_succ, i64_w, i32_w]
            rfl
          refine pure_ (i := 10) (N := some 54) (v := undef) (a' := ?_) #[true, true, true, true, true, true, true, true, true, true, true, false, false, false, false] rfl rfl (any_of HT_.out (by kernel_rfl)) (fun _ _ _ h => h) (Or.inr ⟨by rfl, rfl⟩) ?_ ?_
          rotate_left
          · simp only [Act.put, List.setIfInBounds_toArray, List.set_cons_zero, List.set_cons_succ, i64_w, i32_w]
            rfl
          refine pure_ (i := 11) (N := some 55) (v := undef) (a' := ?_) #[true, true, true, true, true, true, true, true, true, true, true, true, false, false, false] rfl rfl (any_of HT_.out (by kernel_rfl)) (fun _ _ _ h => h) (Or.inr ⟨by rfl, rfl⟩) ?_ ?_
          rotate_left
          · simp only [Act.put, List.setIfInBounds_toArray, List.set_cons_zero, List.set_cons_succ, i64_w, i32_w]
            rfl
          refine pure_ (i := 12) (N := some 56) (v := undef) (a' := ?_) #[true, true, true, true, true, true, true, true, true, true, true, true, true, false, false] rfl rfl (any_of HT_.out (by kernel_rfl)) (fun _ _ _ h => h) (Or.inr ⟨by rfl, rfl⟩) ?_ ?_
          rotate_left
          · simp only [Act.put, List.setIfInBounds_toArray, List.set_cons_zero, List.set_cons_succ, i64_w, i32_w]
            rfl
          refine pure_ (i := 13) (N := some 57) (v := undef) (a' := ?_) #[true, true, true, true, true, true, true, true, true, true, true, true, true, true, false] rfl rfl (any_of HT_.out (by kernel_rfl)) (fun _ _ _ h => h) (Or.inr ⟨by rfl, rfl⟩) ?_ ?_
          rotate_left
          · simp only [Act.put, List.setIfInBounds_toArray, List.set_cons_zero, List.set_cons_succ, i64_w, i32_w]
            rfl
          refine pure_ (i := 14) (N := some 58) (v := ?_) (a' := ?_) #[true, true, true, true, true, true, true, true, true, true, true, true, true, true, true] rfl rfl (any_of HT_.out (by kernel_rfl)) (fun _ _ _ h => h) (Or.inl ⟨by rfl, ?_⟩) ?_ ?_
          rotate_left
          · intro w'
            go_simp
            with_reducible rfl
          rotate_left
          · simp only [Act.put, List.setIfInBounds_toArray, List.set_cons_zero, List.set_cons_succ, i64_w, i32_w]
            rfl
          refine done_ (done_of HT_.out (by kernel_rfl)) ?_
          go_wp2_with (first
            | ((with_reducible refine gate_op (x := .store 39 (.tmp 2) (.tmp 59)) rfl ?_); refine rowStore (by rfl) (by rfl) (by rfl) (t0 := 39) (g := q) (cs := #[.int .i64 0, .int .i64 0, .int .i64 0, .int .i64 0, .int .i64 0, .int .i64 0, .int .i64 0, .int .i64 0, .int .i64 0, .int .i64 0, .int .i64 0, .bool false]) (cs' := #[.int .i64 0, .int .i64 0, .int .i64 0, .int .i64 0, .int .i64 0, .int .i64 0, .int .i64 0, .int .i64 0, .int .i64 0, .int .i64 0, .int .i64 0, .bool false]) (by rfl) (by rfl) (blk_below S6.out.res hHeld) (by kernel_rfl) (by rfl) (by simp [Value.oneCell']) ?_; intro w11 b11 O11; have B11 := (below_step S6.out.below hHeld).trans (O11.below S6.out.hq)))
          refine bodyPost_ret (results_ct rfl _ _ q 39 #[.int .i64 0, .int .i64 0, .int .i64 0, .int .i64 0, .int .i64 0, .int .i64 0, .int .i64 0, .int .i64 0, .int .i64 0, .int .i64 0, .int .i64 0, .bool false] (0, 0) _ rfl b11 Tryd.underlying39 rfl (by kernel_rfl)) rfl ?_
          exact ⟨congrArg Ending.returned HQ.out, B11⟩
        | true =>
          cases nb with
          | true =>
            have hgd : good = false := (by rw [H5.out]; rfl)
            subst hgd
            refine start_ (n := 15) (S := fun w' => Below w6.heap.size w6 w') (ds := []) #[false, false, false, false, false, false, false, false, false, false, false, false, false, false, false] (by kernel_rfl) rfl rfl (below_drew1 (Below.refl _ w6)) (fun hHeld => ?_); refine with_tabW rg.tab9 rg.bits9 (fun HT_ HW_ => ?_)
            refine pure_ (i := 0) (N := some 44) (v := ?_) (a' := ?_) #[true, false, false, false, false, false, false, false, false, false, false, false, false, false, false] rfl rfl (any_of HT_.out (by kernel_rfl)) (fun _ _ _ h => h) (Or.inl ⟨by rfl, ?_⟩) ?_ ?_
            rotate_left
            · intro w'
              go_simp
              with_reducible rfl
            rotate_left
            · simp only [Act.put, List.setIfInBounds_toArray, List.set_cons_zero, List.set_cons_succ, i64_w, i32_w]
              rfl
            refine one_ (i := 1) (N := some 45) #[true, true, false, false, false, false, false, false, false, false, false, false, false, false, false] rfl rfl (one_of HT_.out (by kernel_rfl)) (by decide) (fun K hK => ?_)
            refine goes_ Tryd.func55 (by kernel_rfl) rfl #[.pointer (some ⟨p, 0, none⟩)] (by rfl) rfl rfl (by (try simp only [List.map_toArray, List.map_cons, List.map_nil]); first | done | rfl | (simp only [List.length_drop, List.length_take]; rfl)) ?_
            with_reducible refine (HEND.out _ hHeld).mono ?_
            rintro ev w7 ⟨rfl, hb7⟩
            refine ⟨_, rfl, ?_⟩
            refine hK.out _ _ (below_step hHeld hb7) (fun hHeld => ?_)
            clear hK K
            refine norm_ (a' := ?_) ?_ ?_
            rotate_left
            · show Act.put _ (some 45) _ = _
              simp only [Act.put, List.setIfInBounds_toArray, List.set_cons_zero, List.set_cons_succ, i64_w, i32_w]
              rfl
            refine pure_ (i := 2) (N := some 46) (v := ?_) (a' := ?_) #[true, true, true, false, false, false, false, false, false, false, false, false, false, false, false] rfl rfl (any_of HT_.out (by kernel_rfl)) (fun _ _ _ h => h) (Or.inl ⟨by rfl, ?_⟩) ?_ ?_
            rotate_left
            · intro w'
              go_simp
              with_reducible rfl
            rotate_left
            · simp only [Act.put, List.setIfInBounds_toArray, List.set_cons_zero, List.set_cons_succ, i64_w, i32_w]
              rfl
            refine pure_ (i := 3) (N := some 47) (v := ?_) (a' := ?_) #[true, true, true, true, false, false, false, false, false, false, false, false, false, false, false] rfl rfl (any_of HT_.out (by kernel_rfl)) (fun _ _ _ h => h) (Or.inl ⟨by rfl, ?_⟩) ?_ ?_
            rotate_left
            · intro w'
              go_simp
              with_reducible rfl
            rotate_left
            · simp only [Act.put, List.setIfInBounds_toArray, List.set_cons_zero, List.set_cons_succ, i64_w, i32_w]
              rfl
            refine take_ (i := 4) (N := some 48) (v := ?_) (a' := ?_) #[true, true, true, true, true, false, false, false, false, false, false, false, false, false, false] rfl rfl (take_ofW HT_.out HW_.out (by kernel_rfl)) (fun _ _ _ h => h) (Or.inl ⟨by rfl, ?_⟩) hHeld ?_ ?_
            rotate_left
            · rintro w' s0
              have g0 : w'.cell? ⟨xg, 0, none⟩ = some (.int .i64 x0) := (blk_cell (blk_below b6 s0) 0).trans rfl
              have g1 : w'.cell? ⟨xg, 1, none⟩ = some (.int .i64 x1) := (blk_cell (blk_below b6 s0) 1).trans rfl
              have g2 : w'.cell? ⟨xg, 2, none⟩ = some (.int .i64 x2) := (blk_cell (blk_below b6 s0) 2).trans rfl
              have g3 : w'.cell? ⟨xg, 3, none⟩ = some (.int .i64 x3) := (blk_cell (blk_below b6 s0) 3).trans rfl
              have g4 : w'.cell? ⟨xg, 4, none⟩ = some (.int .i64 x4) := (blk_cell (blk_below b6 s0) 4).trans rfl
              have g5 : w'.cell? ⟨xg, 5, none⟩ = some (.int .i64 x5) := (blk_cell (blk_below b6 s0) 5).trans rfl
              have g6 : w'.cell? ⟨xg, 6, none⟩ = some (.int .i64 x6) := (blk_cell (blk_below b6 s0) 6).trans rfl
              have g7 : w'.cell? ⟨xg, 7, none⟩ = some (.int .i64 x7) := (blk_cell (blk_below b6 s0) 7).trans rfl
              have g8 : w'.cell? ⟨xg, 8, none⟩ = some (.int .i64 x8) := (blk_cell (blk_below b6 s0) 8).trans rfl
              have g9 : w'.cell? ⟨xg, 9, none⟩ = some (.int .i64 x9) := (blk_cell (blk_below b6 s0) 9).trans rfl
              have g10 : w'.cell? ⟨xg, 10, none⟩ = some (.int .i64 x10) := (blk_cell (blk_below b6 s0) 10).trans rfl
              have g11 : w'.cell? ⟨xg, 11, none⟩ = some (.bool (x11 == 1)) := (blk_cell (blk_below b6 s0) 11).trans rfl
              go_simp
              with_reducible rfl
            rotate_left
            · simp only [Act.put, List.setIfInBounds_toArray, List.set_cons_zero, List.set_cons_succ, i64_w, i32_w]
              rfl
            refine one_ (i := 5) (N := some 49) #[true, true, true, true, true, true, false, false, false, false, false, false, false, false, false] rfl rfl (one_of HT_.out (by kernel_rfl)) (by decide) (fun K hK => ?_)
            refine goes_ Tryd.func24 (by kernel_rfl) rfl #[.agg #[.int .i64 x0, .int .i64 x1, .int .i64 x2, .int .i64 x3, .int .i64 x4, .int .i64 x5, .int .i64 x6, .int .i64 x7, .int .i64 x8, .int .i64 x9, .int .i64 x10, .bool (x11 == 1)]] (by rfl) rfl rfl (by (try simp only [List.map_toArray, List.map_cons, List.map_nil]); first | done | rfl | (simp only [List.length_drop, List.length_take]; rfl)) ?_
            with_reducible refine (cmd_Command_Right.calls k x0 x1 x2 x3 x4 x5 x6 x7 x8 x9 x10 (x11 == 1) true _ H1.out).mono ?_
            rintro ev w8 ⟨rfl, hb8⟩
            refine ⟨_, rfl, ?_⟩
            refine hK.out _ _ (below_step hHeld hb8) (fun hHeld => ?_)
            clear hK K
            refine norm_ (a' := ?_) ?_ ?_
            rotate_left
            · show Act.put _ (some 49) _ = _
              simp only [Act.put, List.setIfInBounds_toArray, List.set_cons_zero, List.set_cons_succ, i64_w, i32_w]
              rfl
            refine pure_ (i := 6) (N := some 50) (v := ?_) (a' := ?_) #[true, true, true, true, true, true, true, false, false, false, false, false, false, false, false] rfl rfl (any_of HT_.out (by kernel_rfl)) (fun _ _ _ h => h) (Or.inl ⟨by rfl, ?_⟩) ?_ ?_
            rotate_left
            · intro w'
              go_simp
              with_reducible rfl
            rotate_left
            · simp only [Act.put, List.setIfInBounds_toArray, List.set_cons_zero, List.set_cons_succ, i64_w, i32_w]
              rfl
            refine pure_ (i := 7) (N := some 51) (v := ?_) (a' := ?_) #[true, true, true, true, true, true, true, true, false, false, false, false, false, false, false] rfl rfl (any_of HT_.out (by kernel_rfl)) (fun _ _ _ h => h) (Or.inl ⟨by rfl, ?_⟩) ?_ ?_
            rotate_left
            · intro w'
              go_simp
              with_reducible rfl
            rotate_left
            · simp only [Act.put, List.setIfInBounds_toArray, List.set_cons_zero, List.set_cons_succ, i64_w, i32_w]
              rfl
            refine pure_ (i := 8) (N := some 52) (v := ?_) (a' := ?_) #[true, true, true, true, true, true, true, true, true, false, false, false, false, false, false] rfl rfl (any_of HT_.out (by kernel_rfl)) (fun _ _ _ h => h) (Or.inl ⟨by rfl, ?_⟩) ?_ ?_
            rotate_left
            · intro w'
              go_simp
              with_reducible rfl
            rotate_left
            · simp only [Act.put, List.setIfInBounds_toArray, List.set_cons_zero, List.set_cons_succ, i64_w, i32_w]
              rfl
            refine take_ (i := 9) (N := some 53) (v := ?_) (a' := ?_) #[true, true, true, true, true, true, true, true, true, true, false, false, false, false, false] rfl rfl (take_ofW HT_.out HW_.out (by kernel_rfl)) (fun _ _ _ h => h) (Or.inl ⟨by rfl, ?_⟩) hHeld ?_ ?_
            rotate_left
            · rintro w' s0
              have g0 : w'.cell? ⟨xg, 0, none⟩ = some (.int .i64 x0) := (blk_cell (blk_below b6 s0) 0).trans rfl
              have g1 : w'.cell? ⟨xg, 1, none⟩ = some (.int .i64 x1) := (blk_cell (blk_below b6 s0) 1).trans rfl
              have g2 : w'.cell? ⟨xg, 2, none⟩ = some (.int .i64 x2) := (blk_cell (blk_below b6 s0) 2).trans rfl
              have g3 : w'.cell? ⟨xg, 3, none⟩ = some (.int .i64 x3) := (blk_cell (blk_below b6 s0) 3).trans rfl
              have g4 : w'.cell? ⟨xg, 4, none⟩ = some (.int .i64 x4) := (blk_cell (blk_below b6 s0) 4).trans rfl
              have g5 : w'.cell? ⟨xg, 5, none⟩ = some (.int .i64 x5) := (blk_cell (blk_below b6 s0) 5).trans rfl
              have g6 : w'.cell? ⟨xg, 6, none⟩ = some (.int .i64 x6) := (blk_cell (blk_below b6 s0) 6).trans rfl
              have g7 : w'.cell? ⟨xg, 7, none⟩ = some (.int .i64 x7) := (blk_cell (blk_below b6 s0) 7).trans rfl
              have g8 : w'.cell? ⟨xg, 8, none⟩ = some (.int .i64 x8) := (blk_cell (blk_below b6 s0) 8).trans rfl
              have g9 : w'.cell? ⟨xg, 9, none⟩ = some (.int .i64 x9) := (blk_cell (blk_below b6 s0) 9).trans rfl
              have g10 : w'.cell? ⟨xg, 10, none⟩ = some (.int .i64 x10) := (blk_cell (blk_below b6 s0) 10).trans rfl
              have g11 : w'.cell? ⟨xg, 11, none⟩ = some (.bool (x11 == 1)) := (blk_cell (blk_below b6 s0) 11).trans rfl
              go_simp
              with_reducible rfl
            rotate_left
            · simp only [Act.put, List.setIfInBounds_toArray, List.set_cons_zero, List.set_cons_succ, i64_w, i32_w]
              rfl
            refine take_ (i := 12) (N := some 56) (v := ?_) (a' := ?_) #[true, true, true, true, true, true, true, true, true, true, false, false, true, false, false] rfl rfl (take_ofW HT_.out HW_.out (by kernel_rfl)) (fun _ _ _ h => h) (Or.inl ⟨by rfl, ?_⟩) hHeld ?_ ?_
            rotate_left
            · rintro w' s0
              have g0 : w'.cell? ⟨v, 0, none⟩ = some (.int .i64 x0) := (blk_cell (blk_below S6.out.arr s0) 0).trans rfl
              have g1 : w'.cell? ⟨v, 1, none⟩ = some (.int .i64 x1) := (blk_cell (blk_below S6.out.arr s0) 1).trans rfl
              have g2 : w'.cell? ⟨v, 2, none⟩ = some (.int .i64 x2) := (blk_cell (blk_below S6.out.arr s0) 2).trans rfl
              have g3 : w'.cell? ⟨v, 3, none⟩ = some (.int .i64 x3) := (blk_cell (blk_below S6.out.arr s0) 3).trans rfl
              have g4 : w'.cell? ⟨v, 4, none⟩ = some (.int .i64 x4) := (blk_cell (blk_below S6.out.arr s0) 4).trans rfl
              have g5 : w'.cell? ⟨v, 5, none⟩ = some (.int .i64 x5) := (blk_cell (blk_below S6.out.arr s0) 5).trans rfl
              have g6 : w'.cell? ⟨v, 6, none⟩ = some (.int .i64 x6) := (blk_cell (blk_below S6.out.arr s0) 6).trans rfl
              have g7 : w'.cell? ⟨v, 7, none⟩ = some (.int .i64 x7) := (blk_cell (blk_below S6.out.arr s0) 7).trans rfl
              have g8 : w'.cell? ⟨v, 8, none⟩ = some (.int .i64 x8) := (blk_cell (blk_below S6.out.arr s0) 8).trans rfl
              have g9 : w'.cell? ⟨v, 9, none⟩ = some (.int .i64 x9) := (blk_cell (blk_below S6.out.arr s0) 9).trans rfl
              have g10 : w'.cell? ⟨v, 10, none⟩ = some (.int .i64 x10) := (blk_cell (blk_below S6.out.arr s0) 10).trans rfl
              have g11 : w'.cell? ⟨v, 11, none⟩ = some (.int .i64 x11) := (blk_cell (blk_below S6.out.arr s0) 11).trans rfl
              go_simp
              with_reducible rfl
            rotate_left
            · simp only [Act.put, List.setIfInBounds_toArray, List.set_cons_zero, List.set_cons_succ, i64_w, i32_w]
              rfl
            refine one_ (i := 10) (N := some 54) #[true, true, true, true, true, true, true, true, true, true, true, false, true, false, false] rfl rfl (one_of HT_.out (by kernel_rfl)) (by decide) (fun K hK => ?_)
            refine goes_ Tryd.func26 (by kernel_rfl) rfl #[.agg #[.int .i64 x0, .int .i64 x1, .int .i64 x2, .int .i64 x3, .int .i64 x4, .int .i64 x5, .int .i64 x6, .int .i64 x7, .int .i64 x8, .int .i64 x9, .int .i64 x10, .bool (x11 == 1)]] (by rfl) rfl rfl (by (try simp only [List.map_toArray, List.map_cons, List.map_nil]); first | done | rfl | (simp only [List.length_drop, List.length_take]; rfl)) ?_
            with_reducible refine (cmd_Command_Clean.calls k x0 x1 x2 x3 x4 x5 x6 x7 x8 x9 x10 (x11 == 1) c0 c1 c2 c3 c4 c5 c6 c7 c8 c9 c10 c11 _ H2.out).mono ?_
            rintro ev w9 ⟨rfl, hb9⟩
            refine ⟨_, rfl, ?_⟩
            refine hK.out _ _ (below_step hHeld hb9) (fun hHeld => ?_)
            clear hK K
            refine norm_ (a' := ?_) ?_ ?_
            rotate_left
            · show Act.put _ (some 54) _ = _
              simp only [Act.put, List.setIfInBounds_toArray, List.set_cons_zero, List.set_cons_succ, i64_w, i32_w]
              rfl
            refine one_ (i := 11) (N := some 55) #[true, true, true, true, true, true, true, true, true, true, true, true, true, false, false] rfl rfl (one_of HT_.out (by kernel_rfl)) (by decide) (fun K hK => ?_)
            refine goes_ Tryd.func56 (by kernel_rfl) rfl #[.agg #[.int .i64 c0, .int .i64 c1, .int .i64 c2, .int .i64 c3, .int .i64 c4, .int .i64 c5, .int .i64 c6, .int .i64 c7, .int .i64 c8, .int .i64 c9, .int .i64 c10, .bool c11]] (by rfl) rfl rfl (by (try simp only [List.map_toArray, List.map_cons, List.map_nil]); first | done | rfl | (simp only [List.length_drop, List.length_take]; rfl)) ?_
            with_reducible refine (cmd_Command_numbers.calls c0 c1 c2 c3 c4 c5 c6 c7 c8 c9 c10 c11 n0 n1 n2 n3 n4 n5 n6 n7 n8 n9 n10 n11 _ H3.out).mono ?_
            rintro ev w10 ⟨rfl, hb10⟩
            refine ⟨_, rfl, ?_⟩
            refine hK.out _ _ (below_step hHeld hb10) (fun hHeld => ?_)
            clear hK K
            refine norm_ (a' := ?_) ?_ ?_
            rotate_left
            · show Act.put _ (some 55) _ = _
              simp only [Act.put, List.setIfInBounds_toArray, List.set_cons_zero, List.set_cons_succ, i64_w, i32_w]
              rfl
            refine pure_ (i := 13) (N := some 57) (v := (.bool true)) (a' := ?_) #[true, true, true, true, true, true, true, true, true, true, true, true, true, true, false] rfl rfl (any_of HT_.out (by kernel_rfl)) (fun _ _ _ h => h) (Or.inl ⟨by rfl, ?_⟩) ?_ ?_
            skip
            · intro w'
              have hq_ := H4.out
              go_simp
              (try rw [hq_])
              (try with_reducible rfl)
            rotate_left
            · simp only [Act.put, List.setIfInBounds_toArray, List.set_cons_zero, List.set_cons_succ, i64_w, i32_w]
              rfl
            refine pure_ (i := 14) (N := some 58) (v := ?_) (a' := ?_) #[true, true, true, true, true, true, true, true, true, true, true, true, true, true, true] rfl rfl (any_of HT_.out (by kernel_rfl)) (fun _ _ _ h => h) (Or.inl ⟨by rfl, ?_⟩) ?_ ?_
            rotate_left
            · intro w'
              go_simp
              with_reducible rfl
            rotate_left
            · simp only [Act.put, List.setIfInBounds_toArray, List.set_cons_zero, List.set_cons_succ, i64_w, i32_w]
              rfl
            refine done_ (done_of HT_.out (by kernel_rfl)) ?_
            go_wp2_with (first
              | ((with_reducible refine gate_op (x := .store 39 (.tmp 2) (.tmp 59)) rfl ?_); refine rowStore (by rfl) (by rfl) (by rfl) (t0 := 39) (g := q) (cs := #[.int .i64 0, .int .i64 0, .int .i64 0, .int .i64 0, .int .i64 0, .int .i64 0, .int .i64 0, .int .i64 0, .int .i64 0, .int .i64 0, .int .i64 0, .bool false]) (cs' := #[.int .i64 0, .int .i64 0, .int .i64 0, .int .i64 0, .int .i64 0, .int .i64 0, .int .i64 0, .int .i64 0, .int .i64 0, .int .i64 0, .int .i64 0, .bool false]) (by rfl) (by rfl) (blk_below S6.out.res hHeld) (by kernel_rfl) (by rfl) (by simp [Value.oneCell']) ?_; intro w11 b11 O11; have B11 := (below_step S6.out.below hHeld).trans (O11.below S6.out.hq)))
            refine bodyPost_ret (results_ct rfl _ _ q 39 #[.int .i64 0, .int .i64 0, .int .i64 0, .int .i64 0, .int .i64 0, .int .i64 0, .int .i64 0, .int .i64 0, .int .i64 0, .int .i64 0, .int .i64 0, .bool false] (0, 0) _ rfl b11 Tryd.underlying39 rfl (by kernel_rfl)) rfl ?_
            exact ⟨congrArg Ending.returned HQ.out, B11⟩
          | false =>
            have hgd : good = true := (by rw [H5.out]; rfl)
            subst hgd
            refine start_ (n := 15) (S := fun w' => Below w6.heap.size w6 w') (ds := []) #[false, false, false, false, false, false, false, false, false, false, false, false, false, false, false] (by kernel_rfl) rfl rfl (below_drew1 (Below.refl _ w6)) (fun hHeld => ?_); refine with_tabW rg.tab9 rg.bits9 (fun HT_ HW_ => ?_)
            refine pure_ (i := 0) (N := some 44) (v := ?_) (a' := ?_) #[true, false, false, false, false, false, false, false, false, false, false, false, false, false, false] rfl rfl (any_of HT_.out (by kernel_rfl)) (fun _ _ _ h => h) (Or.inl ⟨by rfl, ?_⟩) ?_ ?_
            rotate_left
            · intro w'
              go_simp
              with_reducible rfl
            rotate_left
            · simp only [Act.put, List.setIfInBounds_toArray, List.set_cons_zero, List.set_cons_succ, i64_w, i32_w]
              rfl
            refine one_ (i := 1) (N := some 45) #[true, true, false, false, false, false, false, false, false, false, false, false, false, false, false] rfl rfl (one_of HT_.out (by kernel_rfl)) (by decide) (fun K hK => ?_)
            refine goes_ Tryd.func55 (by kernel_rfl) rfl #[.pointer (some ⟨p, 0, none⟩)] (by rfl) rfl rfl (by (try simp only [List.map_toArray, List.map_cons, List.map_nil]); first | done | rfl | (simp only [List.length_drop, List.length_take]; rfl)) ?_
            with_reducible refine (HEND.out _ hHeld).mono ?_
            rintro ev w7 ⟨rfl, hb7⟩
            refine ⟨_, rfl, ?_⟩
            refine hK.out _ _ (below_step hHeld hb7) (fun hHeld => ?_)
            clear hK K
            refine norm_ (a' := ?_) ?_ ?_
            rotate_left
            · show Act.put _ (some 45) _ = _
              simp only [Act.put, List.setIfInBounds_toArray, List.set_cons_zero, List.set_cons_succ, i64_w, i32_w]
              rfl
            refine pure_ (i := 2) (N := some 46) (v := ?_) (a' := ?_) #[true, true, true, false, false, false, false, false, false, false, false, false, false, false, false] rfl rfl (any_of HT_.out (by kernel_rfl)) (fun _ _ _ h => h) (Or.inl ⟨by rfl, ?_⟩) ?_ ?_
            rotate_left
            · intro w'
              go_simp
              with_reducible rfl
            rotate_left
            · simp only [Act.put, List.setIfInBounds_toArray, List.set_cons_zero, List.set_cons_succ, i64_w, i32_w]
              rfl
            refine pure_ (i := 3) (N := some 47) (v := ?_) (a' := ?_) #[true, true, true, true, false, false, false, false, false, false, false, false, false, false, false] rfl rfl (any_of HT_.out (by kernel_rfl)) (fun _ _ _ h => h) (Or.inl ⟨by rfl, ?_⟩) ?_ ?_
            rotate_left
            · intro w'
              go_simp
              with_reducible rfl
            rotate_left
            · simp only [Act.put, List.setIfInBounds_toArray, List.set_cons_zero, List.set_cons_succ, i64_w, i32_w]
              rfl
            refine take_ (i := 4) (N := some 48) (v := ?_) (a' := ?_) #[true, true, true, true, true, false, false, false, false, false, false, false, false, false, false] rfl rfl (take_ofW HT_.out HW_.out (by kernel_rfl)) (fun _ _ _ h => h) (Or.inl ⟨by rfl, ?_⟩) hHeld ?_ ?_
            rotate_left
            · rintro w' s0
              have g0 : w'.cell? ⟨xg, 0, none⟩ = some (.int .i64 x0) := (blk_cell (blk_below b6 s0) 0).trans rfl
              have g1 : w'.cell? ⟨xg, 1, none⟩ = some (.int .i64 x1) := (blk_cell (blk_below b6 s0) 1).trans rfl
              have g2 : w'.cell? ⟨xg, 2, none⟩ = some (.int .i64 x2) := (blk_cell (blk_below b6 s0) 2).trans rfl
              have g3 : w'.cell? ⟨xg, 3, none⟩ = some (.int .i64 x3) := (blk_cell (blk_below b6 s0) 3).trans rfl
              have g4 : w'.cell? ⟨xg, 4, none⟩ = some (.int .i64 x4) := (blk_cell (blk_below b6 s0) 4).trans rfl
              have g5 : w'.cell? ⟨xg, 5, none⟩ = some (.int .i64 x5) := (blk_cell (blk_below b6 s0) 5).trans rfl
              have g6 : w'.cell? ⟨xg, 6, none⟩ = some (.int .i64 x6) := (blk_cell (blk_below b6 s0) 6).trans rfl
              have g7 : w'.cell? ⟨xg, 7, none⟩ = some (.int .i64 x7) := (blk_cell (blk_below b6 s0) 7).trans rfl
              have g8 : w'.cell? ⟨xg, 8, none⟩ = some (.int .i64 x8) := (blk_cell (blk_below b6 s0) 8).trans rfl
              have g9 : w'.cell? ⟨xg, 9, none⟩ = some (.int .i64 x9) := (blk_cell (blk_below b6 s0) 9).trans rfl
              have g10 : w'.cell? ⟨xg, 10, none⟩ = some (.int .i64 x10) := (blk_cell (blk_below b6 s0) 10).trans rfl
              have g11 : w'.cell? ⟨xg, 11, none⟩ = some (.bool (x11 == 1)) := (blk_cell (blk_below b6 s0) 11).trans rfl
              go_simp
              with_reducible rfl
            rotate_left
            · simp only [Act.put, List.setIfInBounds_toArray, List.set_cons_zero, List.set_cons_succ, i64_w, i32_w]
              rfl
            refine one_ (i := 5) (N := some 49) #[true, true, true, true, true, true, false, false, false, false, false, false, false, false, false] rfl rfl (one_of HT_.out (by kernel_rfl)) (by decide) (fun K hK => ?_)
            refine goes_ Tryd.func24 (by kernel_rfl) rfl #[.agg #[.int .i64 x0, .int .i64 x1, .int .i64 x2, .int .i64 x3, .int .i64 x4, .int .i64 x5, .int .i64 x6, .int .i64 x7, .int .i64 x8, .int .i64 x9, .int .i64 x10, .bool (x11 == 1)]] (by rfl) rfl rfl (by (try simp only [List.map_toArray, List.map_cons, List.map_nil]); first | done | rfl | (simp only [List.length_drop, List.length_take]; rfl)) ?_
            with_reducible refine (cmd_Command_Right.calls k x0 x1 x2 x3 x4 x5 x6 x7 x8 x9 x10 (x11 == 1) true _ H1.out).mono ?_
            rintro ev w8 ⟨rfl, hb8⟩
            refine ⟨_, rfl, ?_⟩
            refine hK.out _ _ (below_step hHeld hb8) (fun hHeld => ?_)
            clear hK K
            refine norm_ (a' := ?_) ?_ ?_
            rotate_left
            · show Act.put _ (some 49) _ = _
              simp only [Act.put, List.setIfInBounds_toArray, List.set_cons_zero, List.set_cons_succ, i64_w, i32_w]
              rfl
            refine pure_ (i := 6) (N := some 50) (v := ?_) (a' := ?_) #[true, true, true, true, true, true, true, false, false, false, false, false, false, false, false] rfl rfl (any_of HT_.out (by kernel_rfl)) (fun _ _ _ h => h) (Or.inl ⟨by rfl, ?_⟩) ?_ ?_
            rotate_left
            · intro w'
              go_simp
              with_reducible rfl
            rotate_left
            · simp only [Act.put, List.setIfInBounds_toArray, List.set_cons_zero, List.set_cons_succ, i64_w, i32_w]
              rfl
            refine pure_ (i := 7) (N := some 51) (v := ?_) (a' := ?_) #[true, true, true, true, true, true, true, true, false, false, false, false, false, false, false] rfl rfl (any_of HT_.out (by kernel_rfl)) (fun _ _ _ h => h) (Or.inl ⟨by rfl, ?_⟩) ?_ ?_
            rotate_left
            · intro w'
              go_simp
              with_reducible rfl
            rotate_left
            · simp only [Act.put, List.setIfInBounds_toArray, List.set_cons_zero, List.set_cons_succ, i64_w, i32_w]
              rfl
            refine pure_ (i := 8) (N := some 52) (v := ?_) (a' := ?_) #[true, true, true, true, true, true, true, true, true, false, false, false, false, false, false] rfl rfl (any_of HT_.out (by kernel_rfl)) (fun _ _ _ h => h) (Or.inl ⟨by rfl, ?_⟩) ?_ ?_
            rotate_left
            · intro w'
              go_simp
              with_reducible rfl
            rotate_left
            · simp only [Act.put, List.setIfInBounds_toArray, List.set_cons_zero, List.set_cons_succ, i64_w, i32_w]
              rfl
            refine take_ (i := 9) (N := some 53) (v := ?_) (a' := ?_) #[true, true, true, true, true, true, true, true, true, true, false, false, false, false, false] rfl rfl (take_ofW HT_.out HW_.out (by kernel_rfl)) (fun _ _ _ h => h) (Or.inl ⟨by rfl, ?_⟩) hHeld ?_ ?_
            rotate_left
            · rintro w' s0
              have g0 : w'.cell? ⟨xg, 0, none⟩ = some (.int .i64 x0) := (blk_cell (blk_below b6 s0) 0).trans rfl
              have g1 : w'.cell? ⟨xg, 1, none⟩ = some (.int .i64 x1) := (blk_cell (blk_below b6 s0) 1).trans rfl
              have g2 : w'.cell? ⟨xg, 2, none⟩ = some (.int .i64 x2) := (blk_cell (blk_below b6 s0) 2).trans rfl
              have g3 : w'.cell? ⟨xg, 3, none⟩ = some (.int .i64 x3) := (blk_cell (blk_below b6 s0) 3).trans rfl
              have g4 : w'.cell? ⟨xg, 4, none⟩ = some (.int .i64 x4) := (blk_cell (blk_below b6 s0) 4).trans rfl
              have g5 : w'.cell? ⟨xg, 5, none⟩ = some (.int .i64 x5) := (blk_cell (blk_below b6 s0) 5).trans rfl
              have g6 : w'.cell? ⟨xg, 6, none⟩ = some (.int .i64 x6) := (blk_cell (blk_below b6 s0) 6).trans rfl
              have g7 : w'.cell? ⟨xg, 7, none⟩ = some (.int .i64 x7) := (blk_cell (blk_below b6 s0) 7).trans rfl
              have g8 : w'.cell? ⟨xg, 8, none⟩ = some (.int .i64 x8) := (blk_cell (blk_below b6 s0) 8).trans rfl
              have g9 : w'.cell? ⟨xg, 9, none⟩ = some (.int .i64 x9) := (blk_cell (blk_below b6 s0) 9).trans rfl
              have g10 : w'.cell? ⟨xg, 10, none⟩ = some (.int .i64 x10) := (blk_cell (blk_below b6 s0) 10).trans rfl
              have g11 : w'.cell? ⟨xg, 11, none⟩ = some (.bool (x11 == 1)) := (blk_cell (blk_below b6 s0) 11).trans rfl
              go_simp
              with_reducible rfl
            rotate_left
            · simp only [Act.put, List.setIfInBounds_toArray, List.set_cons_zero, List.set_cons_succ, i64_w, i32_w]
              rfl
            refine take_ (i := 12) (N := some 56) (v := ?_) (a' := ?_) #[true, true, true, true, true, true, true, true, true, true, false, false, true, false, false] rfl rfl (take_ofW HT_.out HW_.out (by kernel_rfl)) (fun _ _ _ h => h) (Or.inl ⟨by rfl, ?_⟩) hHeld ?_ ?_
            rotate_left
            · rintro w' s0
              have g0 : w'.cell? ⟨v, 0, none⟩ = some (.int .i64 x0) := (blk_cell (blk_below S6.out.arr s0) 0).trans rfl
              have g1 : w'.cell? ⟨v, 1, none⟩ = some (.int .i64 x1) := (blk_cell (blk_below S6.out.arr s0) 1).trans rfl
              have g2 : w'.cell? ⟨v, 2, none⟩ = some (.int .i64 x2) := (blk_cell (blk_below S6.out.arr s0) 2).trans rfl
              have g3 : w'.cell? ⟨v, 3, none⟩ = some (.int .i64 x3) := (blk_cell (blk_below S6.out.arr s0) 3).trans rfl
              have g4 : w'.cell? ⟨v, 4, none⟩ = some (.int .i64 x4) := (blk_cell (blk_below S6.out.arr s0) 4).trans rfl
              have g5 : w'.cell? ⟨v, 5, none⟩ = some (.int .i64 x5) := (blk_cell (blk_below S6.out.arr s0) 5).trans rfl
              have g6 : w'.cell? ⟨v, 6, none⟩ = some (.int .i64 x6) := (blk_cell (blk_below S6.out.arr s0) 6).trans rfl
              have g7 : w'.cell? ⟨v, 7, none⟩ = some (.int .i64 x7) := (blk_cell (blk_below S6.out.arr s0) 7).trans rfl
              have g8 : w'.cell? ⟨v, 8, none⟩ = some (.int .i64 x8) := (blk_cell (blk_below S6.out.arr s0) 8).trans rfl
              have g9 : w'.cell? ⟨v, 9, none⟩ = some (.int .i64 x9) := (blk_cell (blk_below S6.out.arr s0) 9).trans rfl
              have g10 : w'.cell? ⟨v, 10, none⟩ = some (.int .i64 x10) := (blk_cell (blk_below S6.out.arr s0) 10).trans rfl
              have g11 : w'.cell? ⟨v, 11, none⟩ = some (.int .i64 x11) := (blk_cell (blk_below S6.out.arr s0) 11).trans rfl
              go_simp
              with_reducible rfl
            rotate_left
            · simp only [Act.put, List.setIfInBounds_toArray, List.set_cons_zero, List.set_cons_succ, i64_w, i32_w]
              rfl
            refine one_ (i := 10) (N := some 54) #[true, true, true, true, true, true, true, true, true, true, true, false, true, false, false] rfl rfl (one_of HT_.out (by kernel_rfl)) (by decide) (fun K hK => ?_)
            refine goes_ Tryd.func26 (by kernel_rfl) rfl #[.agg #[.int .i64 x0, .int .i64 x1, .int .i64 x2, .int .i64 x3, .int .i64 x4, .int .i64 x5, .int .i64 x6, .int .i64 x7, .int .i64 x8, .int .i64 x9, .int .i64 x10, .bool (x11 == 1)]] (by rfl) rfl rfl (by (try simp only [List.map_toArray, List.map_cons, List.map_nil]); first | done | rfl | (simp only [List.length_drop, List.length_take]; rfl)) ?_
            with_reducible refine (cmd_Command_Clean.calls k x0 x1 x2 x3 x4 x5 x6 x7 x8 x9 x10 (x11 == 1) c0 c1 c2 c3 c4 c5 c6 c7 c8 c9 c10 c11 _ H2.out).mono ?_
            rintro ev w9 ⟨rfl, hb9⟩
            refine ⟨_, rfl, ?_⟩
            refine hK.out _ _ (below_step hHeld hb9) (fun hHeld => ?_)
            clear hK K
            refine norm_ (a' := ?_) ?_ ?_
            rotate_left
            · show Act.put _ (some 54) _ = _
              simp only [Act.put, List.setIfInBounds_toArray, List.set_cons_zero, List.set_cons_succ, i64_w, i32_w]
              rfl
            refine one_ (i := 11) (N := some 55) #[true, true, true, true, true, true, true, true, true, true, true, true, true, false, false] rfl rfl (one_of HT_.out (by kernel_rfl)) (by decide) (fun K hK => ?_)
            refine goes_ Tryd.func56 (by kernel_rfl) rfl #[.agg #[.int .i64 c0, .int .i64 c1, .int .i64 c2, .int .i64 c3, .int .i64 c4, .int .i64 c5, .int .i64 c6, .int .i64 c7, .int .i64 c8, .int .i64 c9, .int .i64 c10, .bool c11]] (by rfl) rfl rfl (by (try simp only [List.map_toArray, List.map_cons, List.map_nil]); first | done | rfl | (simp only [List.length_drop, List.length_take]; rfl)) ?_
            with_reducible refine (cmd_Command_numbers.calls c0 c1 c2 c3 c4 c5 c6 c7 c8 c9 c10 c11 n0 n1 n2 n3 n4 n5 n6 n7 n8 n9 n10 n11 _ H3.out).mono ?_
            rintro ev w10 ⟨rfl, hb10⟩
            refine ⟨_, rfl, ?_⟩
            refine hK.out _ _ (below_step hHeld hb10) (fun hHeld => ?_)
            clear hK K
            refine norm_ (a' := ?_) ?_ ?_
            rotate_left
            · show Act.put _ (some 55) _ = _
              simp only [Act.put, List.setIfInBounds_toArray, List.set_cons_zero, List.set_cons_succ, i64_w, i32_w]
              rfl
            refine pure_ (i := 13) (N := some 57) (v := (.bool false)) (a' := ?_) #[true, true, true, true, true, true, true, true, true, true, true, true, true, true, false] rfl rfl (any_of HT_.out (by kernel_rfl)) (fun _ _ _ h => h) (Or.inl ⟨by rfl, ?_⟩) ?_ ?_
            skip
            · intro w'
              have hq_ := H4.out
              go_simp
              (try rw [hq_])
              (try with_reducible rfl)
            rotate_left
            · simp only [Act.put, List.setIfInBounds_toArray, List.set_cons_zero, List.set_cons_succ, i64_w, i32_w]
              rfl
            refine pure_ (i := 14) (N := some 58) (v := ?_) (a' := ?_) #[true, true, true, true, true, true, true, true, true, true, true, true, true, true, true] rfl rfl (any_of HT_.out (by kernel_rfl)) (fun _ _ _ h => h) (Or.inl ⟨by rfl, ?_⟩) ?_ ?_
            rotate_left
            · intro w'
              go_simp
              with_reducible rfl
            rotate_left
            · simp only [Act.put, List.setIfInBounds_toArray, List.set_cons_zero, List.set_cons_succ, i64_w, i32_w]
              rfl
            refine done_ (done_of HT_.out (by kernel_rfl)) ?_
            go_wp2_with (first
              | ((with_reducible refine gate_op (x := .load 39 (.tmp 7)) rfl ?_); refine rowLoad (by rfl) (by rfl) (t0 := 39) (g := xg) (cs := #[.int .i64 x0, .int .i64 x1, .int .i64 x2, .int .i64 x3, .int .i64 x4, .int .i64 x5, .int .i64 x6, .int .i64 x7, .int .i64 x8, .int .i64 x9, .int .i64 x10, .bool (x11 == 1)]) (by rfl) (blk_below b6 hHeld) hu39 (by rfl) (by kernel_rfl) ?_)
              | ((with_reducible refine gate_op (x := .store 39 (.tmp 2) (.tmp 60)) rfl ?_); refine rowStore (by rfl) (by rfl) (by rfl) (t0 := 39) (g := q) (cs := #[.int .i64 0, .int .i64 0, .int .i64 0, .int .i64 0, .int .i64 0, .int .i64 0, .int .i64 0, .int .i64 0, .int .i64 0, .int .i64 0, .int .i64 0, .bool false]) (cs' := #[.int .i64 x0, .int .i64 x1, .int .i64 x2, .int .i64 x3, .int .i64 x4, .int .i64 x5, .int .i64 x6, .int .i64 x7, .int .i64 x8, .int .i64 x9, .int .i64 x10, .bool (x11 == 1)]) (by rfl) (by rfl) (blk_below S6.out.res hHeld) (by kernel_rfl) (by rfl) (by simp [Value.oneCell']) ?_; intro w11 b11 O11; have B11 := (below_step S6.out.below hHeld).trans (O11.below S6.out.hq)))
            refine bodyPost_ret (results_ct rfl _ _ q 39 #[.int .i64 x0, .int .i64 x1, .int .i64 x2, .int .i64 x3, .int .i64 x4, .int .i64 x5, .int .i64 x6, .int .i64 x7, .int .i64 x8, .int .i64 x9, .int .i64 x10, .bool (x11 == 1)] (0, 0) _ rfl b11 Tryd.underlying39 rfl (by kernel_rfl)) rfl ?_
            exact ⟨congrArg Ending.returned HQ.out, B11⟩
      · have hgd : good = false := (by rw [H5.out, decide_eq_false he0]; rfl)
        have hA : (er != 0) = true := bne_iff_ne.mpr he0
        subst hgd
        clear he0
        refine start_ (n := 15) (S := fun w' => Below w6.heap.size w6 w') (ds := []) #[false, false, false, false, false, false, false, false, false, false, false, false, false, false, false] (by kernel_rfl) rfl rfl (below_drew1 (Below.refl _ w6)) (fun hHeld => ?_); refine with_tabW rg.tab9 rg.bits9 (fun HT_ HW_ => ?_)
        refine pure_ (i := 0) (N := some 44) (v := ?_) (a' := ?_) #[true, false, false, false, false, false, false, false, false, false, false, false, false, false, false] rfl rfl (any_of HT_.out (by kernel_rfl)) (fun _ _ _ h => h) (Or.inl ⟨by rfl, ?_⟩) ?_ ?_
        rotate_left
        · intro w'
          go_simp
          with_reducible rfl
        rotate_left
        · simp only [Act.put, List.setIfInBounds_toArray, List.set_cons_zero, List.set_cons_succ, i64_w, i32_w]
          rfl
        refine one_ (i := 1) (N := some 45) #[true, true, false, false, false, false, false, false, false, false, false, false, false, false, false] rfl rfl (one_of HT_.out (by kernel_rfl)) (by decide) (fun K hK => ?_)
        refine goes_ Tryd.func55 (by kernel_rfl) rfl #[.pointer (some ⟨p, 0, none⟩)] (by rfl) rfl rfl (by (try simp only [List.map_toArray, List.map_cons, List.map_nil]); first | done | rfl | (simp only [List.length_drop, List.length_take]; rfl)) ?_
        with_reducible refine (HEND.out _ hHeld).mono ?_
        rintro ev w7 ⟨rfl, hb7⟩
        refine ⟨_, rfl, ?_⟩
        refine hK.out _ _ (below_step hHeld hb7) (fun hHeld => ?_)
        clear hK K
        refine norm_ (a' := ?_) ?_ ?_
        rotate_left
        · show Act.put _ (some 45) _ = _
          simp only [Act.put, List.setIfInBounds_toArray, List.set_cons_zero, List.set_cons_succ, i64_w, i32_w]
          rfl
        refine pure_ (i := 2) (N := some 46) (v := ?_) (a' := ?_) #[true, true, true, false, false, false, false, false, false, false, false, false, false, false, false] rfl rfl (any_of HT_.out (by kernel_rfl)) (fun _ _ _ h => h) (Or.inl ⟨by rfl, ?_⟩) ?_ ?_
        rotate_left
        · intro w'
          go_simp
          with_reducible rfl
        rotate_left
        · simp only [Act.put, List.setIfInBounds_toArray, List.set_cons_zero, List.set_cons_succ, i64_w, i32_w]
          rfl
        refine pure_ (i := 3) (N := some 47) (v := ?_) (a' := ?_) #[true, true, true, true, false, false, false, false, false, false, false, false, false, false, false] rfl rfl (any_of HT_.out (by kernel_rfl)) (fun _ _ _ h => h) (Or.inl ⟨by rfl, ?_⟩) ?_ ?_
        rotate_left
        · intro w'
          go_simp
          with_reducible rfl
        rotate_left
        · simp only [Act.put, List.setIfInBounds_toArray, List.set_cons_zero, List.set_cons_succ, i64_w, i32_w]
          rfl
        refine pure_ (i := 4) (N := some 48) (v := undef) (a' := ?_) #[true, true, true, true, true, false, false, false, false, false, false, false, false, false, false] rfl rfl (any_of HT_.out (by kernel_rfl)) (fun _ _ _ h => h) (Or.inr ⟨by rfl, rfl⟩) ?_ ?_
        rotate_left
        · simp only [Act.put, List.setIfInBounds_toArray, List.set_cons_zero, List.set_cons_succ, i64_w, i32_w]
          rfl
        refine pure_ (i := 5) (N := some 49) (v := undef) (a' := ?_) #[true, true, true, true, true, true, false, false, false, false, false, false, false, false, false] rfl rfl (any_of HT_.out (by kernel_rfl)) (fun _ _ _ h => h) (Or.inr ⟨by rfl, rfl⟩) ?_ ?_
        rotate_left
        · simp only [Act.put, List.setIfInBounds_toArray, List.set_cons_zero, List.set_cons_succ, i64_w, i32_w]
          rfl
        refine pure_ (i := 6) (N := some 50) (v := undef) (a' := ?_) #[true, true, true, true, true, true, true, false, false, false, false, false, false, false, false] rfl rfl (any_of HT_.out (by kernel_rfl)) (fun _ _ _ h => h) (Or.inr ⟨by rfl, rfl⟩) ?_ ?_
        rotate_left
        · simp only [Act.put, List.setIfInBounds_toArray, List.set_cons_zero, List.set_cons_succ, i64_w, i32_w]
          rfl
        refine pure_ (i := 7) (N := some 51) (v := ?_) (a' := ?_) #[true, true, true, true, true, true, true, true, false, false, false, false, false, false, false] rfl rfl (any_of HT_.out (by kernel_rfl)) (fun _ _ _ h => h) (Or.inl ⟨by rfl, ?_⟩) ?_ ?_
        rotate_left
        · intro w'
          go_simp
          with_reducible rfl
        rotate_left
        · simp only [Act.put, List.setIfInBounds_toArray, List.set_cons_zero, List.set_cons_succ, i64_w, i32_w]
          rfl
        refine pure_ (i := 8) (N := some 52) (v := ?_) (a' := ?_) #[true, true, true, true, true, true, true, true, true, false, false, false, false, false, false] rfl rfl (any_of HT_.out (by kernel_rfl)) (fun _ _ _ h => h) (Or.inl ⟨by rfl, ?_⟩) ?_ ?_
        rotate_left
        · intro w'
          go_simp
          with_reducible rfl
        rotate_left
        · simp only [Act.put, List.setIfInBounds_toArray, List.set_cons_zero, List.set_cons_succ, i64_w, i32_w]
          rfl
        refine pure_ (i := 9) (N := some 53) (v := undef) (a' := ?_) #[true, true, true, true, true, true, true, true, true, true, false, false, false, false, false] rfl rfl (any_of HT_.out (by kernel_rfl)) (fun _ _ _ h => h) (Or.inr ⟨by rfl, rfl⟩) ?_ ?_
        rotate_left
        · simp only [Act.put, List.setIfInBounds_toArray, List.set_cons_zero, List.set_cons_succ, i64_w, i32_w]
          rfl
        refine pure_ (i := 10) (N := some 54) (v := undef) (a' := ?_) #[true, true, true, true, true, true, true, true, true, true, true, false, false, false, false] rfl rfl (any_of HT_.out (by kernel_rfl)) (fun _ _ _ h => h) (Or.inr ⟨by rfl, rfl⟩) ?_ ?_
        rotate_left
        · simp only [Act.put, List.setIfInBounds_toArray, List.set_cons_zero, List.set_cons_succ, i64_w, i32_w]
          rfl
        refine pure_ (i := 11) (N := some 55) (v := undef) (a' := ?_) #[true, true, true, true, true, true, true, true, true, true, true, true, false, false, false] rfl rfl (any_of HT_.out (by kernel_rfl)) (fun _ _ _ h => h) (Or.inr ⟨by rfl, rfl⟩) ?_ ?_
        rotate_left
        · simp only [Act.put, List.setIfInBounds_toArray, List.set_cons_zero, List.set_cons_succ, i64_w, i32_w]
          rfl
        refine pure_ (i := 12) (N := some 56) (v := undef) (a' := ?_) #[true, true, true, true, true, true, true, true, true, true, true, true, true, false, false] rfl rfl (any_of HT_.out (by kernel_rfl)) (fun _ _ _ h => h) (Or.inr ⟨by rfl, rfl⟩) ?_ ?_
        rotate_left
        · simp only [Act.put, List.setIfInBounds_toArray, List.set_cons_zero, List.set_cons_succ, i64_w, i32_w]
          rfl
        refine pure_ (i := 13) (N := some 57) (v := undef) (a' := ?_) #[true, true, true, true, true, true, true, true, true, true, true, true, true, true, false] rfl rfl (any_of HT_.out (by kernel_rfl)) (fun _ _ _ h => h) (Or.inr ⟨by rfl, rfl⟩) ?_ ?_
        rotate_left
        · simp only [Act.put, List.setIfInBounds_toArray, List.set_cons_zero, List.set_cons_succ, i64_w, i32_w]
          rfl
        refine pure_ (i := 14) (N := some 58) (v := ?_) (a' := ?_) #[true, true, true, true, true, true, true, true, true, true, true, true, true, true, true] rfl rfl (any_of HT_.out (by kernel_rfl)) (fun _ _ _ h => h) (Or.inl ⟨by rfl, ?_⟩) ?_ ?_
        rotate_left
        · intro w'
          go_simp
          with_reducible rfl
        rotate_left
        · simp only [Act.put, List.setIfInBounds_toArray, List.set_cons_zero, List.set_cons_succ, i64_w, i32_w]
          rfl
        refine done_ (done_of HT_.out (by kernel_rfl)) ?_
        go_wp2_with (first
          | ((with_reducible refine gate_op (x := .store 39 (.tmp 2) (.tmp 59)) rfl ?_); refine rowStore (by rfl) (by rfl) (by rfl) (t0 := 39) (g := q) (cs := #[.int .i64 0, .int .i64 0, .int .i64 0, .int .i64 0, .int .i64 0, .int .i64 0, .int .i64 0, .int .i64 0, .int .i64 0, .int .i64 0, .int .i64 0, .bool false]) (cs' := #[.int .i64 0, .int .i64 0, .int .i64 0, .int .i64 0, .int .i64 0, .int .i64 0, .int .i64 0, .int .i64 0, .int .i64 0, .int .i64 0, .int .i64 0, .bool false]) (by rfl) (by rfl) (blk_below S6.out.res hHeld) (by kernel_rfl) (by rfl) (by simp [Value.oneCell']) ?_; intro w11 b11 O11; have B11 := (below_step S6.out.below hHeld).trans (O11.below S6.out.hq)))
        refine bodyPost_ret (results_ct rfl _ _ q 39 #[.int .i64 0, .int .i64 0, .int .i64 0, .int .i64 0, .int .i64 0, .int .i64 0, .int .i64 0, .int .i64 0, .int .i64 0, .int .i64 0, .int .i64 0, .bool false] (0, 0) _ rfl b11 Tryd.underlying39 rfl (by kernel_rfl)) rfl ?_
        exact ⟨congrArg Ending.returned HQ.out, B11⟩


end Go.Proofs.YtkkjjogbfjahgaaDoor.Sc
