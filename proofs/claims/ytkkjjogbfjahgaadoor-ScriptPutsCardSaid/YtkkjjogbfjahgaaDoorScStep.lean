/- A part of the proofs over script (ScStep): contracts of the program's functions and plain laws. Conditions: those that each theorem states. -/
import Derived.Test.YtkkjjogbfjahgaaDoorScCmd
import Derived.Test.YtkkjjogbfjahgaaDoorPScx14
import Derived.Test.YtkkjjogbfjahgaaDoorPScx9
set_option linter.unusedVariables false
set_option linter.unusedSimpArgs false
/- script.read, by hand. -/
namespace Go.Proofs.YtkkjjogbfjahgaaDoor.Sc
open Go Go.Proofs Go.RowKit Go.Proofs.YtkkjjogbfjahgaaDoorW.PrintWords Go.Proofs.YtkkjjogbfjahgaaDoorW.PrintLast Go.Proofs.YtkkjjogbfjahgaaDoorW.PrintMore Go.Proofs.YtkkjjogbfjahgaaDoor.Cur Go.Proofs.YtkkjjogbfjahgaaDoor.PSc

/-- nothing that there was but the block p is turned -/
structure Near (p : Nat) (w W : World) : Prop where
  os : W.os = w.os
  tape : W.tape = w.tape
  output : W.output = w.output
  size : w.heap.size ≤ W.heap.size
  block : ∀ k, k < w.heap.size → k ≠ p → W.heap[k]? = w.heap[k]?
theorem Near.refl (p : Nat) (w : World) : Near p w w := ⟨rfl, rfl, rfl, Nat.le_refl _, fun _ _ _ => rfl⟩
theorem Near.bel {p : Nat} {w W W1 : World} (h : Near p w W) (hB : Below W.heap.size W W1) : Near p w W1 :=
  ⟨hB.os.trans h.os, hB.tape.trans h.tape, hB.output.trans h.output, Nat.le_trans h.size hB.size, fun k hk hp => (hB.block k (Nat.lt_of_lt_of_le hk h.size)).trans (h.block k hk hp)⟩
theorem Near.only {p : Nat} {w W W1 : World} (h : Near p w W) (ho : Only p W W1) : Near p w W1 :=
  ⟨ho.os.trans h.os, ho.tape.trans h.tape, ho.output.trans h.output, by rw [ho.size]; exact h.size, fun k hk hp => (ho.block k hp).trans (h.block k hk hp)⟩
theorem Near.far {p g : Nat} {w W W1 : World} (h : Near p w W) (hg : w.heap.size ≤ g) (ho : Only g W W1) : Near p w W1 :=
  ⟨ho.os.trans h.os, ho.tape.trans h.tape, ho.output.trans h.output, by rw [ho.size]; exact h.size, fun k hk hp => (ho.block k (by omega)).trans (h.block k hk hp)⟩
theorem Near.below {p n : Nat} {w W : World} (h : Near p w W) (hn : n ≤ p) (hp : p < w.heap.size) : Below n w W := ⟨h.os, h.tape, h.output, h.size, fun k hk => h.block k (by omega) (by omega)⟩
/-- in a step's reading: its result at q, the step at g -/
structure RZ (w W : World) (p q g : Nat) (cs : Array Value) (bs : List Int) (e : Int) : Prop where
  cur : CurIs W p bs e
  near : Near p w W
  res : W.heap[q]? = some (.cells #[.int .i64 0, .int .i64 0, .int .i64 0, .int .i64 0, .int .i64 0, .int .i64 0, .int .i64 0, .int .i64 0, .int .i64 0, .int .i64 0, .int .i64 0, .int .i64 0, .bool false, .string (⟨#[]⟩ : ByteArray), .int .i64 0, .int .i64 0, .int .i64 0, .int .i64 0, .int .i64 0] 42 (0, 0))
  st : W.heap[g]? = some (.cells cs 42 (0, 0))
  hb : ∀ x ∈ bs, 0 ≤ x ∧ x < 256
  errT : ErrT W
  h0 : 0 < p
  hp : p < w.heap.size
  hq : w.heap.size ≤ q
  hg : q < g
section
variable {w W W1 : World} {p q g : Nat} {cs cs' : Array Value} {bs bs' : List Int} {e e' : Int}
theorem RZ.bel (h : RZ w W p q g cs bs e) (hB : Below W.heap.size W W1) : RZ w W1 p q g cs bs e :=
  ⟨h.cur.below hB, h.near.bel hB, blk_below h.res hB, blk_below h.st hB, h.hb, h.errT.below hB, h.h0, h.hp, h.hq, h.hg⟩
theorem RZ.only (h : RZ w W p q g cs bs e) (ho : Only p W W1) (hc : CurIs W1 p bs' e') (hb : ∀ x ∈ bs', 0 ≤ x ∧ x < 256) : RZ w W1 p q g cs bs' e' := by
  have h1 := h.hp
  have h2 := h.hq
  have h3 := h.hg
  exact ⟨hc, h.near.only ho, blk_only h.res ho (by omega), blk_only h.st ho (by omega), hb, h.errT.belowN h.h0 (ho.below (Nat.le_refl p)), h.h0, h1, h2, h3⟩
theorem RZ.put (h : RZ w W p q g cs bs e) (i : Nat) (u : Value) (hs : cs.setIfInBounds i u = cs') : RZ w (W.setCell ⟨g, i, none⟩ u) p q g cs' bs e := by
  have h1 := h.hp
  have h2 := h.hq
  have h3 := h.hg
  have ho : Only g W (W.setCell ⟨g, i, none⟩ u) := Only.set g i W u
  exact ⟨h.cur.same (fun k hk => ho.block k (by omega)), h.near.far (by omega) ho, blk_only h.res ho (by omega), blk_put h.st i u hs, h.hb, h.errT.belowN (n := g) (by omega) (ho.below (Nat.le_refl g)), h.h0, h1, h2, h3⟩
theorem RZ.whole (h : RZ w W p q g cs bs e) (ho : Only g W W1) (hs : W1.heap[g]? = some (.cells cs' 42 (0, 0))) : RZ w W1 p q g cs' bs e := by
  have h1 := h.hp
  have h2 := h.hq
  have h3 := h.hg
  exact ⟨h.cur.same (fun k hk => ho.block k (by omega)), h.near.far (by omega) ho, blk_only h.res ho (by omega), hs, h.hb, h.errT.belowN (n := g) (by omega) (ho.below (Nat.le_refl g)), h.h0, h1, h2, h3⟩
end
theorem bytesOf_str (l : List Int) (h : ∀ x ∈ l, 0 ≤ x ∧ x < 256) : bytesOf (strOfNums l) = l := by
  unfold strOfNums bytesOf
  simp only [List.map_map]
  conv => rhs; rw [← List.map_id l]
  refine List.map_congr_left fun x hx => ?_
  have := h x hx
  show (((UInt8.ofNat x.toNat).toNat : Nat) : Int) = x
  rw [UInt8.toNat_ofNat']
  omega
theorem str_size (l : List Int) : (strOfNums l).size = l.length := by simp [strOfNums, ByteArray.size]
theorem str_C (W : World) (t : List Int) (ht : ∀ x ∈ t, 0 ≤ x ∧ x < 256) (hm : t.length < 140737488355328) : Kd.C (Kd.int .u8) (Lib.bytesWorld W 5 (strOfNums t)) (some ⟨W.heap.size, 0, none⟩) t.length t := by
  have h := Kd.C_of_reads (d := (0 : Int)) (h1 := fun _ => rfl) (bytes_reads W 5 (strOfNums t) (by rw [str_size]; omega))
  rw [bytesOf_str t ht, str_size] at h
  exact h
theorem str_conv (W : World) (t : List Int) : (convert 9 22 (.string (strOfNums t))).run Tryd.prog W = .ok (.slice (some ⟨W.heap.size, 0, none⟩) t.length (grownCap W t.length 0 5)) (Lib.bytesWorld W 5 (strOfNums t)) := by
  rw [print_bytes (P := Tryd.prog) 9 22 5 Tryd.underlying9 Tryd.underlying22 Tryd.underlying5 (strOfNums t) W, str_size]
theorem textOf_len (bs : List Int) (e : Int) : (textOf bs e).1.length ≤ 65536 := by
  have hr := smallOf_in 65536 (by omega) bs e
  unfold textOf
  dsimp only
  split
  · simp
  · split
    · simp
    · rw [List.length_take]; omega
theorem textOf_in (bs : List Int) (e : Int) (x : Int) (h : x ∈ (textOf bs e).1) : x ∈ bs := by
  unfold textOf at h
  dsimp only at h
  split at h
  · simp at h
  · split at h
    · simp at h
    · exact smallOf_sub _ _ _ _ (List.mem_of_mem_take h)
theorem list4 : ∀ (xs : List Int), xs.length = 4 → ∃ v0 v1 v2 v3, xs = [v0, v1, v2, v3]
  | [a, b, c, d], _ => ⟨a, b, c, d, rfl⟩
/-- a step that falls: its cells, its four numbers told apart -/
def kcells (ks : List Int) : Array Value := (([.int .i64 3, .int .i64 0, .int .i64 0, .int .i64 0, .int .i64 0, .int .i64 0, .int .i64 0, .int .i64 0, .int .i64 0, .int .i64 0, .int .i64 0, .int .i64 0, .bool false, .string (⟨#[]⟩ : ByteArray), .int .i64 0] : List Value) ++ ks.map (Value.int .i64)).toArray
theorem kput (ks : List Int) (i : Nat) (u : Int) : (kcells ks).setIfInBounds (15 + i) (.int .i64 u) = kcells (ks.set i u) := by
  unfold kcells
  rw [List.setIfInBounds_toArray, List.set_append_right _ _ (by simp), List.map_set]
  congr 4
  simp
theorem kget (ks : List Int) (i : Nat) (hi : i < ks.length) : (kcells ks)[15 + i]? = some (.int .i64 ks[i]) := by
  unfold kcells
  rw [List.getElem?_toArray, List.getElem?_append_right (by simp)]
  simp [hi]
/-- the same, whatever the result holds -/
structure RY (w W : World) (p q g : Nat) (cs : Array Value) (bs : List Int) (e : Int) : Prop where
  cur : CurIs W p bs e
  near : Near p w W
  res : ∃ rcs : Array Value, W.heap[q]? = some (.cells rcs 42 (0, 0)) ∧ rcs.size = 19
  st : W.heap[g]? = some (.cells cs 42 (0, 0))
  errT : ErrT W
  h0 : 0 < p
  hp : p < w.heap.size
  hq : w.heap.size ≤ q
  hg : q < g
theorem RZ.ry {w W : World} {p q g : Nat} {cs : Array Value} {bs : List Int} {e : Int} (h : RZ w W p q g cs bs e) : RY w W p q g cs bs e := ⟨h.cur, h.near, ⟨_, h.res, rfl⟩, h.st, h.errT, h.h0, h.hp, h.hq, h.hg⟩
theorem RY.bel {w W W1 : World} {p q g : Nat} {cs : Array Value} {bs : List Int} {e : Int} (h : RY w W p q g cs bs e) (hB : Below W.heap.size W W1) : RY w W1 p q g cs bs e := by
  obtain ⟨rcs, hr, hs⟩ := h.res
  exact ⟨h.cur.below hB, h.near.bel hB, ⟨rcs, blk_below hr hB, hs⟩, blk_below h.st hB, h.errT.below hB, h.h0, h.hp, h.hq, h.hg⟩
theorem RY.fill {w W : World} {p q g : Nat} {cs rcs : Array Value} {bs : List Int} {e : Int} (h : RY w W p q g cs bs e) (hb : (W.setRow q rcs).heap[q]? = some (.cells rcs 42 (0, 0))) (hs : rcs.size = 19) : RY w (W.setRow q rcs) p q g cs bs e := by
  have h1 := h.hp
  have h2 := h.hq
  have h3 := h.hg
  have ho : Only q W (W.setRow q rcs) := ⟨rfl, rfl, rfl, setRow_size W q rcs, fun k hk => setRow_other W q k rcs hk⟩
  exact ⟨h.cur.same (fun k hk => ho.block k (by omega)), h.near.far h2 ho, ⟨rcs, hb, hs⟩, blk_only h.st ho (by omega), h.errT.belowN (n := q) (by omega) (ho.below (Nat.le_refl q)), h.h0, h1, h2, h3⟩
def rs.T16 : Bool × List (List Nat × List Nat) := (true, [([], []), ([], []), ([1], [1]), ([2], [2]), ([3], [3]), ([4, 3, 3], [3, 4]), ([5, 3], [3, 5]), ([3, 6], [3, 6]), ([7, 5], [7]), ([8], [8]), ([9, 8, 8], [8, 9]), ([8, 10], [8, 10]), ([0, 10, 0], [0]), ([11, 12, 0, 1, 2, 3, 4, 5, 6, 7, 8, 9, 10, 11, 12], [11])])
def rs.B16 : List Nat := [0, 0, 2, 6, 14, 30, 62, 126, 254, 510, 1022, 2046, 2047, 8191]
theorem rs.tab16 : rtab .any (opsOf Tryd.f18 16) = rs.T16 := by kernel_rfl
theorem rs.bits16 : waitsOk rs.T16.2 rs.B16 = true := by kernel_rfl
attribute [local go_sem ↓ high] lb42
attribute [local go_sem high] ld42
/-- what cmd.Read comes to -/
def cmd_Read.f (k : Nat) (l : List Int) : Option (S39 × Int) :=
  (cmd_Command_Right.f k (cmdOf (intsN 12 l 0).1).f0 (cmdOf (intsN 12 l 0).1).f1 (cmdOf (intsN 12 l 0).1).f2 (cmdOf (intsN 12 l 0).1).f3 (cmdOf (intsN 12 l 0).1).f4 (cmdOf (intsN 12 l 0).1).f5 (cmdOf (intsN 12 l 0).1).f6 (cmdOf (intsN 12 l 0).1).f7 (cmdOf (intsN 12 l 0).1).f8 (cmdOf (intsN 12 l 0).1).f9 (cmdOf (intsN 12 l 0).1).f10 (cmdOf (intsN 12 l 0).1).f11).bind fun b => (cmd_Command_Clean.f k (cmdOf (intsN 12 l 0).1).f0 (cmdOf (intsN 12 l 0).1).f1 (cmdOf (intsN 12 l 0).1).f2 (cmdOf (intsN 12 l 0).1).f3 (cmdOf (intsN 12 l 0).1).f4 (cmdOf (intsN 12 l 0).1).f5 (cmdOf (intsN 12 l 0).1).f6 (cmdOf (intsN 12 l 0).1).f7 (cmdOf (intsN 12 l 0).1).f8 (cmdOf (intsN 12 l 0).1).f9 (cmdOf (intsN 12 l 0).1).f10 (cmdOf (intsN 12 l 0).1).f11).bind fun y => (cmd_Command_numbers.f y.1 y.2.1 y.2.2.1 y.2.2.2.1 y.2.2.2.2.1 y.2.2.2.2.2.1 y.2.2.2.2.2.2.1 y.2.2.2.2.2.2.2.1 y.2.2.2.2.2.2.2.2.1 y.2.2.2.2.2.2.2.2.2.1 y.2.2.2.2.2.2.2.2.2.2.1 y.2.2.2.2.2.2.2.2.2.2.2).bind fun n =>
    some (if (decide (endOf (intsN 12 l 0).2.1 (intsN 12 l 0).2.2 = 0) && (b && (decide ([n.1, n.2.1, n.2.2.1, n.2.2.2.1, n.2.2.2.2.1, n.2.2.2.2.2.1, n.2.2.2.2.2.2.1, n.2.2.2.2.2.2.2.1, n.2.2.2.2.2.2.2.2.1, n.2.2.2.2.2.2.2.2.2.1, n.2.2.2.2.2.2.2.2.2.2.1, n.2.2.2.2.2.2.2.2.2.2.2] = (intsN 12 l 0).1)))) = true then (cmdOf (intsN 12 l 0).1, 0) else (z39, 11))
def keepOf (v : List Int) : S40 := ⟨v.getD 0 0, v.getD 1 0, v.getD 2 0, v.getD 3 0⟩
/-- a step's fields, what was wrong with its command, and the cursor behind them -/
def stepF (k : Nat) (bs : List Int) (e : Int) : Option (S42 × Int × List Int × Int) :=
  if (smallOf 5 bs e).1 = 0 then (cmd_Read.f k (textOf (smallOf 5 bs e).2.1 (smallOf 5 bs e).2.2).1).bind fun r => some (⟨0, r.1, (⟨#[]⟩ : ByteArray), 0, z40⟩, r.2, (textOf (smallOf 5 bs e).2.1 (smallOf 5 bs e).2.2).2)
  else if (smallOf 5 bs e).1 = 1 then some (⟨1, z39, strOfNums (textOf (smallOf 5 bs e).2.1 (smallOf 5 bs e).2.2).1, 0, z40⟩, 0, (textOf (smallOf 5 bs e).2.1 (smallOf 5 bs e).2.2).2)
  else if (smallOf 5 bs e).1 = 2 then some (⟨2, z39, (⟨#[]⟩ : ByteArray), (intOf (smallOf 5 bs e).2.1 (smallOf 5 bs e).2.2).1, z40⟩, 0, (intOf (smallOf 5 bs e).2.1 (smallOf 5 bs e).2.2).2)
  else if (smallOf 5 bs e).1 = 3 then some (⟨3, z39, (⟨#[]⟩ : ByteArray), 0, keepOf (intsN 4 (smallOf 5 bs e).2.1 (smallOf 5 bs e).2.2).1⟩, 0, (intsN 4 (smallOf 5 bs e).2.1 (smallOf 5 bs e).2.2).2)
  else some (⟨(smallOf 5 bs e).1, z39, (⟨#[]⟩ : ByteArray), 0, z40⟩, 0, (smallOf 5 bs e).2)

set_option maxRecDepth 100000 in
theorem cmd_Read_calls (k : Nat) (A : Option Addr) (c : Nat) (l : List Int) (w : World) (hC : Kd.C (Kd.int .u8) w A l.length l) (hc : l.length ≤ c) (hm : l.length < 140737488355328) (hb : ∀ x ∈ l, 0 ≤ x ∧ x < 256) (hE : ErrT w) (cx : S39) (ce : Int) (h : cmd_Read.f k l = some (cx, ce)) :
    Calls Tryd.prog 34 #[.slice A l.length c] w fun ev w' => ev = .returned (.tuple #[.agg #[.int .i64 cx.f0, .int .i64 cx.f1, .int .i64 cx.f2, .int .i64 cx.f3, .int .i64 cx.f4, .int .i64 cx.f5, .int .i64 cx.f6, .int .i64 cx.f7, .int .i64 cx.f8, .int .i64 cx.f9, .int .i64 cx.f10, .bool cx.f11], .int .i64 ce]) ∧ Below w.heap.size w w' := by
  unfold cmd_Read.f at h
  obtain ⟨⟨xs, bsE, eE⟩, hR⟩ : ∃ z, intsN 12 l 0 = z := ⟨_, rfl⟩
  have hl : xs.length = 12 := by have := intsN_len 12 l 0; rw [hR] at this; exact this
  obtain ⟨y0, y1, y2, y3, y4, y5, y6, y7, y8, y9, y10, y11, rfl⟩ := list12 xs hl
  rw [hR] at h
  obtain ⟨b, hb1, h⟩ := Option.bind_eq_some_iff.mp h
  obtain ⟨⟨c0, c1, c2, c3, c4, c5, c6, c7, c8, c9, c10, c11⟩, hc1, h⟩ := Option.bind_eq_some_iff.mp h
  obtain ⟨⟨n0, n1, n2, n3, n4, n5, n6, n7, n8, n9, n10, n11⟩, hn1, h⟩ := Option.bind_eq_some_iff.mp h
  have he := Option.some.inj h
  have hnb : ((!(n0 == y0) || (!(n1 == y1) || (!(n2 == y2) || (!(n3 == y3) || (!(n4 == y4) || (!(n5 == y5) || (!(n6 == y6) || (!(n7 == y7) || (!(n8 == y8) || (!(n9 == y9) || (!(n10 == y10) || (!(n11 == y11)))))))))))))) = !(decide ([n0, n1, n2, n3, n4, n5, n6, n7, n8, n9, n10, n11] = [y0, y1, y2, y3, y4, y5, y6, y7, y8, y9, y10, y11])) := by
    rw [Bool.eq_iff_iff]
    simp only [Bool.or_eq_true, Bool.not_eq_true', beq_eq_false_iff_ne, ne_eq, decide_eq_false_iff_not, List.cons.injEq, and_true]
    omega
  refine cmdRead_go k A c l w hC hc hm hb hE y0 y1 y2 y3 y4 y5 y6 y7 y8 y9 y10 y11 bsE eE hR b _ hb1 c0 c1 c2 c3 c4 c5 c6 c7 c8 c9 c10 c11 n0 n1 n2 n3 n4 n5 n6 n7 n8 n9 n10 n11 hc1 hn1 hnb _ rfl _ ?_
  rw [Bool.not_not]
  by_cases hg : (decide (endOf bsE eE = 0) && (b && decide ([n0, n1, n2, n3, n4, n5, n6, n7, n8, n9, n10, n11] = [y0, y1, y2, y3, y4, y5, y6, y7, y8, y9, y10, y11]))) = true
  · rw [if_pos hg] at he ⊢
    obtain ⟨rfl, rfl⟩ := Prod.mk.inj he
    rfl
  · rw [if_neg hg] at he ⊢
    obtain ⟨rfl, rfl⟩ := Prod.mk.inj he
    rfl

set_option maxRecDepth 100000 in
set_option maxHeartbeats 32000000 in
theorem step_calls (k : Nat) (p : Nat) (bs : List Int) (e : Int) (w : World) (hcur : CurIs w p bs e) (h0 : 0 < p) (hb : ∀ x ∈ bs, 0 ≤ x ∧ x < 256) (hE : ErrT w) (x : S42) (ec : Int) (bs' : List Int) (e' : Int) (h : stepF k bs e = some (x, ec, bs', e')) (r : Bool) (hr : script_Step_Right.f k x.f0 x.f1.f0 x.f1.f1 x.f1.f2 x.f1.f3 x.f1.f4 x.f1.f5 x.f1.f6 x.f1.f7 x.f1.f8 x.f1.f9 x.f1.f10 x.f1.f11 x.f2 x.f3 x.f4.f0 x.f4.f1 x.f4.f2 x.f4.f3 = some r) :
    Calls Tryd.prog 18 #[.pointer (some ⟨p, 0, none⟩)] w fun ev w' => ev = .returned (.tuple #[.agg #[.int .i64 x.f0, .int .i64 x.f1.f0, .int .i64 x.f1.f1, .int .i64 x.f1.f2, .int .i64 x.f1.f3, .int .i64 x.f1.f4, .int .i64 x.f1.f5, .int .i64 x.f1.f6, .int .i64 x.f1.f7, .int .i64 x.f1.f8, .int .i64 x.f1.f9, .int .i64 x.f1.f10, .bool x.f1.f11, .string x.f2, .int .i64 x.f3, .int .i64 x.f4.f0, .int .i64 x.f4.f1, .int .i64 x.f4.f2, .int .i64 x.f4.f3], .bool (decide (ec = 0) && (decide (e' = 0) && r))]) ∧ CurIs w' p bs' e' ∧ Near p w w' := by
  have hu42 := Tryd.underlying42
  have hu39 := Tryd.underlying39
  have hu40 := Tryd.underlying40
  have hrg := smallOf_in 5 (by omega) bs e
  obtain ⟨⟨kd, b1, e1⟩, hs⟩ : ∃ z, smallOf 5 bs e = z := ⟨_, rfl⟩
  have hb1 : ∀ x ∈ b1, 0 ≤ x ∧ x < 256 := fun x hx => hb x (smallOf_sub 5 bs e x (by rw [hs]; exact hx))
  unfold stepF at h
  rw [hs] at h hrg
  simp only at h hrg
  have HSM := Aside0.mk hs
  have HCU := Aside0.mk hcur
  have HB := Aside0.mk hb
  have HB1 := Aside0.mk hb1
  have HE := Aside0.mk hE
  have HH := Aside0.mk h
  have HRR := Aside0.mk hr
  have HRG := Aside0.mk hrg
  have hpl := hcur.lt
  clear hs hcur hb hb1 hE h hr hrg
  go_enter Tryd.func18, Tryd.ntmps18
  go_upto_block 0 with (first
    | ((with_reducible refine gate_dst (N := 2) rfl ?_); refine box_event rfl (N := 2) rfl (cs := #[.int .i64 0, .int .i64 0, .int .i64 0, .int .i64 0, .int .i64 0, .int .i64 0, .int .i64 0, .int .i64 0, .int .i64 0, .int .i64 0, .int .i64 0, .int .i64 0, .bool false, .string (⟨#[]⟩ : ByteArray), .int .i64 0, .int .i64 0, .int .i64 0, .int .i64 0, .int .i64 0]) (t := 42) (by first | (go_simp; done) | (go_simp; rfl)) ?_; intro q eq w1 b1_ B1; have lwq : w.heap.size ≤ q := Nat.le_of_eq eq.symm; clear eq)
    | (go_at_call 33; refine (small_calls p 5 bs e _ (HCU.out.below B1) HB.out).mono ?_; rw [HSM.out]; rintro ev w2 ⟨rfl, hc2, ho2⟩; have b2_ := blk_only b1_ ho2 (by omega); have N2 := ((Near.refl p w).bel B1).only ho2; have E2 := (HE.out.below B1).belowN h0 (ho2.below (Nat.le_refl p)))
    | ((with_reducible refine gate_dst (N := 4) rfl ?_); refine box_event rfl (N := 4) rfl (cs := #[.int .i64 0, .int .i64 0, .int .i64 0, .int .i64 0, .int .i64 0, .int .i64 0, .int .i64 0, .int .i64 0, .int .i64 0, .int .i64 0, .int .i64 0, .int .i64 0, .bool false, .string (⟨#[]⟩ : ByteArray), .int .i64 0, .int .i64 0, .int .i64 0, .int .i64 0, .int .i64 0]) (t := 42) (by first | (go_simp; done) | (go_simp; rfl)) ?_; intro g eg w3 b3_ B3; have lg : q < g := (by rw [eg]; exact blk_lt b2_); clear eg; have S3 := Aside0.mk (show RZ w w3 p q g #[.int .i64 0, .int .i64 0, .int .i64 0, .int .i64 0, .int .i64 0, .int .i64 0, .int .i64 0, .int .i64 0, .int .i64 0, .int .i64 0, .int .i64 0, .int .i64 0, .bool false, .string (⟨#[]⟩ : ByteArray), .int .i64 0, .int .i64 0, .int .i64 0, .int .i64 0, .int .i64 0] b1 e1 from ⟨hc2.below B3, N2.bel B3, blk_below b2_ B3, b3_, HB1.out, E2.below B3, h0, hpl, lwq, lg⟩); clear b1_ b2_ N2 E2 hc2 ho2 B1)
    | ((with_reducible refine gate_op (x := .store 42 (.tmp 4) (.tmp 9)) rfl ?_); refine rowStore (by rfl) (by rfl) (by rfl) (t0 := 42) (g := g) (cs := #[.int .i64 0, .int .i64 0, .int .i64 0, .int .i64 0, .int .i64 0, .int .i64 0, .int .i64 0, .int .i64 0, .int .i64 0, .int .i64 0, .int .i64 0, .int .i64 0, .bool false, .string (⟨#[]⟩ : ByteArray), .int .i64 0, .int .i64 0, .int .i64 0, .int .i64 0, .int .i64 0]) (cs' := #[.int .i64 kd, .int .i64 0, .int .i64 0, .int .i64 0, .int .i64 0, .int .i64 0, .int .i64 0, .int .i64 0, .int .i64 0, .int .i64 0, .int .i64 0, .int .i64 0, .bool false, .string (⟨#[]⟩ : ByteArray), .int .i64 0, .int .i64 0, .int .i64 0, .int .i64 0, .int .i64 0]) (by rfl) (by rfl) S3.out.st (by kernel_rfl) (by rfl) (by simp [Value.oneCell']) ?_; intro w4 b4_ O4; have S4 := Aside0.mk (S3.out.whole O4 b4_); have c0 : w4.cell? ⟨g, 0, none⟩ = some (.int .i64 kd) := (blk_cell b4_ 0).trans rfl; clear b3_ B3 lwq lg b4_ O4))
  go_cut [5] (fun v5 wc => v5 = .int .i64 ec ∧ Aside0 (RZ w wc p q g #[.int .i64 x.f0, .int .i64 x.f1.f0, .int .i64 x.f1.f1, .int .i64 x.f1.f2, .int .i64 x.f1.f3, .int .i64 x.f1.f4, .int .i64 x.f1.f5, .int .i64 x.f1.f6, .int .i64 x.f1.f7, .int .i64 x.f1.f8, .int .i64 x.f1.f9, .int .i64 x.f1.f10, .bool x.f1.f11, .string x.f2, .int .i64 x.f3, .int .i64 x.f4.f0, .int .i64 x.f4.f1, .int .i64 x.f4.f2, .int .i64 x.f4.f3] bs' e'))
  case first =>
    have h := HH.out
    clear HH
    by_cases k0 : kd = 0
    · rw [if_pos k0] at h
      subst k0
      obtain ⟨⟨t, tb, te⟩, ht⟩ : ∃ z, textOf b1 e1 = z := ⟨_, rfl⟩
      rw [ht] at h
      obtain ⟨⟨cx, ce⟩, hcm, h⟩ := Option.bind_eq_some_iff.mp h
      simp only [Option.some.injEq, Prod.mk.injEq] at h
      obtain ⟨rfl, rfl, rfl, rfl⟩ := h
      have htl : t.length ≤ 65536 := (by have := textOf_len b1 e1; rw [ht] at this; exact this)
      have htb : ∀ x ∈ t, 0 ≤ x ∧ x < 256 := fun x hx => HB1.out x (textOf_in b1 e1 x (by rw [ht]; exact hx))
      have hsb : ∀ x ∈ tb, 0 ≤ x ∧ x < 256 := fun x hx => HB1.out x (textOf_sub b1 e1 x (by rw [ht]; exact hx))
      have HT := Aside0.mk ht
      have HTB := Aside0.mk htb
      have HSB := Aside0.mk hsb
      have HCM := Aside0.mk hcm
      have KB := Aside0.mk (fun W => str_conv W t)
      clear ht htb hsb hcm
      go_wp2_with (first
        | (go_at_call 35; refine (text_calls p b1 e1 _ S4.out.cur S4.out.hb).mono ?_; rw [HT.out]; rintro ev w5 ⟨rfl, hc5, ho5⟩; have S5 := Aside0.mk (S4.out.only ho5 hc5 HSB.out); have kb := KB.out w5; have S5b := Aside0.mk (S5.out.bel (bytes_below (Below.refl _ w5) (Nat.le_refl _) 5 (strOfNums t))); clear hc5 ho5)
        | (go_at_call 34; refine (cmd_Read_calls k _ _ t _ (str_C w5 t HTB.out (by omega)) (grownCap_ge w5 t.length 0 5) (by omega) HTB.out S5b.out.errT cx ce HCM.out).mono ?_; rintro ev w6 ⟨rfl, hb6⟩; have S6 := Aside0.mk (S5b.out.bel hb6); have z1 : w6.cell? ⟨g, 1, none⟩ = some (.int .i64 0) := (blk_cell S6.out.st 1).trans rfl; have f1 := blk_frozen S6.out.st 1; have z2 : w6.cell? ⟨g, 2, none⟩ = some (.int .i64 0) := (blk_cell S6.out.st 2).trans rfl; have f2 := blk_frozen S6.out.st 2; have z3 : w6.cell? ⟨g, 3, none⟩ = some (.int .i64 0) := (blk_cell S6.out.st 3).trans rfl; have f3 := blk_frozen S6.out.st 3; have z4 : w6.cell? ⟨g, 4, none⟩ = some (.int .i64 0) := (blk_cell S6.out.st 4).trans rfl; have f4 := blk_frozen S6.out.st 4; have z5 : w6.cell? ⟨g, 5, none⟩ = some (.int .i64 0) := (blk_cell S6.out.st 5).trans rfl; have f5 := blk_frozen S6.out.st 5; have z6 : w6.cell? ⟨g, 6, none⟩ = some (.int .i64 0) := (blk_cell S6.out.st 6).trans rfl; have f6 := blk_frozen S6.out.st 6; have z7 : w6.cell? ⟨g, 7, none⟩ = some (.int .i64 0) := (blk_cell S6.out.st 7).trans rfl; have f7 := blk_frozen S6.out.st 7; have z8 : w6.cell? ⟨g, 8, none⟩ = some (.int .i64 0) := (blk_cell S6.out.st 8).trans rfl; have f8 := blk_frozen S6.out.st 8; have z9 : w6.cell? ⟨g, 9, none⟩ = some (.int .i64 0) := (blk_cell S6.out.st 9).trans rfl; have f9 := blk_frozen S6.out.st 9; have z10 : w6.cell? ⟨g, 10, none⟩ = some (.int .i64 0) := (blk_cell S6.out.st 10).trans rfl; have f10 := blk_frozen S6.out.st 10; have z11 : w6.cell? ⟨g, 11, none⟩ = some (.int .i64 0) := (blk_cell S6.out.st 11).trans rfl; have f11 := blk_frozen S6.out.st 11; have z12 : w6.cell? ⟨g, 12, none⟩ = some (.bool false) := (blk_cell S6.out.st 12).trans rfl; have f12 := blk_frozen S6.out.st 12; clear hb6))
      go_meet
      case rel => exact ⟨rfl, ⟨(by refine RZ.put (cs := #[.int .i64 0, .int .i64 cx.f0, .int .i64 cx.f1, .int .i64 cx.f2, .int .i64 cx.f3, .int .i64 cx.f4, .int .i64 cx.f5, .int .i64 cx.f6, .int .i64 cx.f7, .int .i64 cx.f8, .int .i64 cx.f9, .int .i64 cx.f10, .bool false, .string (⟨#[]⟩ : ByteArray), .int .i64 0, .int .i64 0, .int .i64 0, .int .i64 0, .int .i64 0]) ?_ 12 _ rfl; refine RZ.put (cs := #[.int .i64 0, .int .i64 cx.f0, .int .i64 cx.f1, .int .i64 cx.f2, .int .i64 cx.f3, .int .i64 cx.f4, .int .i64 cx.f5, .int .i64 cx.f6, .int .i64 cx.f7, .int .i64 cx.f8, .int .i64 cx.f9, .int .i64 0, .bool false, .string (⟨#[]⟩ : ByteArray), .int .i64 0, .int .i64 0, .int .i64 0, .int .i64 0, .int .i64 0]) ?_ 11 _ rfl; refine RZ.put (cs := #[.int .i64 0, .int .i64 cx.f0, .int .i64 cx.f1, .int .i64 cx.f2, .int .i64 cx.f3, .int .i64 cx.f4, .int .i64 cx.f5, .int .i64 cx.f6, .int .i64 cx.f7, .int .i64 cx.f8, .int .i64 0, .int .i64 0, .bool false, .string (⟨#[]⟩ : ByteArray), .int .i64 0, .int .i64 0, .int .i64 0, .int .i64 0, .int .i64 0]) ?_ 10 _ rfl; refine RZ.put (cs := #[.int .i64 0, .int .i64 cx.f0, .int .i64 cx.f1, .int .i64 cx.f2, .int .i64 cx.f3, .int .i64 cx.f4, .int .i64 cx.f5, .int .i64 cx.f6, .int .i64 cx.f7, .int .i64 0, .int .i64 0, .int .i64 0, .bool false, .string (⟨#[]⟩ : ByteArray), .int .i64 0, .int .i64 0, .int .i64 0, .int .i64 0, .int .i64 0]) ?_ 9 _ rfl; refine RZ.put (cs := #[.int .i64 0, .int .i64 cx.f0, .int .i64 cx.f1, .int .i64 cx.f2, .int .i64 cx.f3, .int .i64 cx.f4, .int .i64 cx.f5, .int .i64 cx.f6, .int .i64 0, .int .i64 0, .int .i64 0, .int .i64 0, .bool false, .string (⟨#[]⟩ : ByteArray), .int .i64 0, .int .i64 0, .int .i64 0, .int .i64 0, .int .i64 0]) ?_ 8 _ rfl; refine RZ.put (cs := #[.int .i64 0, .int .i64 cx.f0, .int .i64 cx.f1, .int .i64 cx.f2, .int .i64 cx.f3, .int .i64 cx.f4, .int .i64 cx.f5, .int .i64 0, .int .i64 0, .int .i64 0, .int .i64 0, .int .i64 0, .bool false, .string (⟨#[]⟩ : ByteArray), .int .i64 0, .int .i64 0, .int .i64 0, .int .i64 0, .int .i64 0]) ?_ 7 _ rfl; refine RZ.put (cs := #[.int .i64 0, .int .i64 cx.f0, .int .i64 cx.f1, .int .i64 cx.f2, .int .i64 cx.f3, .int .i64 cx.f4, .int .i64 0, .int .i64 0, .int .i64 0, .int .i64 0, .int .i64 0, .int .i64 0, .bool false, .string (⟨#[]⟩ : ByteArray), .int .i64 0, .int .i64 0, .int .i64 0, .int .i64 0, .int .i64 0]) ?_ 6 _ rfl; refine RZ.put (cs := #[.int .i64 0, .int .i64 cx.f0, .int .i64 cx.f1, .int .i64 cx.f2, .int .i64 cx.f3, .int .i64 0, .int .i64 0, .int .i64 0, .int .i64 0, .int .i64 0, .int .i64 0, .int .i64 0, .bool false, .string (⟨#[]⟩ : ByteArray), .int .i64 0, .int .i64 0, .int .i64 0, .int .i64 0, .int .i64 0]) ?_ 5 _ rfl; refine RZ.put (cs := #[.int .i64 0, .int .i64 cx.f0, .int .i64 cx.f1, .int .i64 cx.f2, .int .i64 0, .int .i64 0, .int .i64 0, .int .i64 0, .int .i64 0, .int .i64 0, .int .i64 0, .int .i64 0, .bool false, .string (⟨#[]⟩ : ByteArray), .int .i64 0, .int .i64 0, .int .i64 0, .int .i64 0, .int .i64 0]) ?_ 4 _ rfl; refine RZ.put (cs := #[.int .i64 0, .int .i64 cx.f0, .int .i64 cx.f1, .int .i64 0, .int .i64 0, .int .i64 0, .int .i64 0, .int .i64 0, .int .i64 0, .int .i64 0, .int .i64 0, .int .i64 0, .bool false, .string (⟨#[]⟩ : ByteArray), .int .i64 0, .int .i64 0, .int .i64 0, .int .i64 0, .int .i64 0]) ?_ 3 _ rfl; refine RZ.put (cs := #[.int .i64 0, .int .i64 cx.f0, .int .i64 0, .int .i64 0, .int .i64 0, .int .i64 0, .int .i64 0, .int .i64 0, .int .i64 0, .int .i64 0, .int .i64 0, .int .i64 0, .bool false, .string (⟨#[]⟩ : ByteArray), .int .i64 0, .int .i64 0, .int .i64 0, .int .i64 0, .int .i64 0]) ?_ 2 _ rfl; refine RZ.put (cs := #[.int .i64 0, .int .i64 0, .int .i64 0, .int .i64 0, .int .i64 0, .int .i64 0, .int .i64 0, .int .i64 0, .int .i64 0, .int .i64 0, .int .i64 0, .int .i64 0, .bool false, .string (⟨#[]⟩ : ByteArray), .int .i64 0, .int .i64 0, .int .i64 0, .int .i64 0, .int .i64 0]) ?_ 1 _ rfl; exact S6.out)⟩⟩
    · rw [if_neg k0] at h
      have n0 : (kd == 0) = false := beq_eq_false_iff_ne.mpr k0
      by_cases k1 : kd = 1
      · rw [if_pos k1] at h
        subst k1
        obtain ⟨⟨t, tb, te⟩, ht⟩ : ∃ z, textOf b1 e1 = z := ⟨_, rfl⟩
        rw [ht] at h
        simp only [Option.some.injEq, Prod.mk.injEq] at h
        obtain ⟨rfl, rfl, rfl, rfl⟩ := h
        have hsb : ∀ x ∈ tb, 0 ≤ x ∧ x < 256 := fun x hx => HB1.out x (textOf_sub b1 e1 x (by rw [ht]; exact hx))
        have HT := Aside0.mk ht
        have HSB := Aside0.mk hsb
        clear ht hsb
        go_wp2_with (first
          | (go_at_call 35; refine (text_calls p b1 e1 _ S4.out.cur S4.out.hb).mono ?_; rw [HT.out]; rintro ev w5 ⟨rfl, hc5, ho5⟩; have S5 := Aside0.mk (S4.out.only ho5 hc5 HSB.out); have z13 : w5.cell? ⟨g, 13, none⟩ = some (.string (⟨#[]⟩ : ByteArray)) := (blk_cell S5.out.st 13).trans rfl; have f13 := blk_frozen S5.out.st 13; clear hc5 ho5))
        go_meet
        case rel => exact ⟨rfl, ⟨(by refine RZ.put (cs := #[.int .i64 1, .int .i64 0, .int .i64 0, .int .i64 0, .int .i64 0, .int .i64 0, .int .i64 0, .int .i64 0, .int .i64 0, .int .i64 0, .int .i64 0, .int .i64 0, .bool false, .string (⟨#[]⟩ : ByteArray), .int .i64 0, .int .i64 0, .int .i64 0, .int .i64 0, .int .i64 0]) ?_ 13 _ rfl; exact S5.out)⟩⟩
      · rw [if_neg k1] at h
        have n1 : (kd == 1) = false := beq_eq_false_iff_ne.mpr k1
        by_cases k2 : kd = 2
        · rw [if_pos k2] at h
          subst k2
          obtain ⟨⟨u, tb, te⟩, ht⟩ : ∃ z, Cur.intOf b1 e1 = z := ⟨_, rfl⟩
          rw [ht] at h
          simp only [Option.some.injEq, Prod.mk.injEq] at h
          obtain ⟨rfl, rfl, rfl, rfl⟩ := h
          have hsb : ∀ x ∈ tb, 0 ≤ x ∧ x < 256 := fun x hx => HB1.out x (intOf_sub b1 e1 x (by rw [ht]; exact hx))
          have HT := Aside0.mk ht
          have HSB := Aside0.mk hsb
          clear ht hsb
          go_wp2_with (first
            | (go_at_call 36; refine (int_calls p b1 e1 _ S4.out.cur S4.out.hb).mono ?_; rw [HT.out]; rintro ev w5 ⟨rfl, hc5, ho5⟩; have S5 := Aside0.mk (S4.out.only ho5 hc5 HSB.out); have z14 : w5.cell? ⟨g, 14, none⟩ = some (.int .i64 0) := (blk_cell S5.out.st 14).trans rfl; have f14 := blk_frozen S5.out.st 14; clear hc5 ho5))
          go_meet
          case rel => exact ⟨rfl, ⟨(by refine RZ.put (cs := #[.int .i64 2, .int .i64 0, .int .i64 0, .int .i64 0, .int .i64 0, .int .i64 0, .int .i64 0, .int .i64 0, .int .i64 0, .int .i64 0, .int .i64 0, .int .i64 0, .bool false, .string (⟨#[]⟩ : ByteArray), .int .i64 0, .int .i64 0, .int .i64 0, .int .i64 0, .int .i64 0]) ?_ 14 _ rfl; exact S5.out)⟩⟩
        · rw [if_neg k2] at h
          have n2 : (kd == 2) = false := beq_eq_false_iff_ne.mpr k2
          by_cases k3 : kd = 3
          · rw [if_pos k3] at h
            subst k3
            obtain ⟨⟨ks0, tb, te⟩, ht⟩ : ∃ z, intsN 4 b1 e1 = z := ⟨_, rfl⟩
            rw [ht] at h
            simp only [Option.some.injEq, Prod.mk.injEq] at h
            obtain ⟨rfl, rfl, rfl, rfl⟩ := h
            obtain ⟨y0, y1, y2, y3, rfl⟩ := list4 ks0 (by have := intsN_len 4 b1 e1; rw [ht] at this; exact this)
            have HT := Aside0.mk ht
            clear ht
            go_wp2
            go_loopw [34] (fun v34 wr => ∃ (i : Nat) (ks bs : List Int) (e : Int), v34 = .int .i64 (i : Int) ∧ i ≤ 4 ∧ ks.length = 4 ∧ (ks.take i ++ (intsN (4 - i) bs e).1, (intsN (4 - i) bs e).2) = ([y0, y1, y2, y3], tb, te) ∧ RZ w wr p q g (kcells ks) bs e) (fun v34 wr => 4 - natOf v34)
            case atStart => exact ⟨0, [0, 0, 0, 0], b1, e1, rfl, by omega, rfl, HT.out, S4.out⟩
            case round =>
              obtain ⟨i, ks, bs1, e2, rfl, hi, hlen, hr, hS⟩ := hrel
              clear S4 c0
              by_cases hlt : i < 4
              · obtain ⟨⟨u, bs2, e3⟩, hint⟩ : ∃ r, Cur.intOf bs1 e2 = r := ⟨_, rfl⟩
                obtain ⟨m, hm⟩ : ∃ m, 4 - i = m + 1 := ⟨4 - i - 1, by omega⟩
                have hm2 : 4 - (i + 1) = m := by omega
                rw [hm, intsN_step hint] at hr
                have hb' : ∀ x ∈ bs2, 0 ≤ x ∧ x < 256 := fun x hx => hS.hb x (intOf_sub bs1 e2 x (by rw [hint]; exact hx))
                have d1 : decide ((i : Int) < 4) = true := decide_eq_true (by omega)
                have d2 : (i : Int) < 4 := by omega
                have hix : i < ks.length := by omega
                have HI := Aside0.mk hint
                have HB2 := Aside0.mk hb'
                have HS := Aside0.mk hS
                have HR2 := Aside0.mk hr
                have HM2 := Aside0.mk hm2
                clear hint hb' hS hr hm hm2
                go_wp2_with (go_at_call 36; refine (int_calls p bs1 e2 _ HS.out.cur HS.out.hb).mono ?_; rw [HI.out]; rintro ev w5 ⟨rfl, hc5, ho5⟩
                             have S5 := Aside0.mk (HS.out.only ho5 hc5 HB2.out)
                             have z5 : w5.cell? ⟨g, 15 + i, none⟩ = some (.int .i64 ks[i]) := (blk_cell S5.out.st (15 + i)).trans (kget ks i hix)
                             have f5 := blk_frozen S5.out.st (15 + i)
                             clear hc5 ho5)
                go_roundw
                case rel =>
                  refine ⟨i + 1, ks.set i u, bs2, e3, by go_num, by omega, by rw [List.length_set]; exact hlen, ?_, S5.out.put (15 + i) _ (kput ks i u)⟩
                  rw [HM2.out, ← HR2.out, List.take_set]
                  congr 1
                  rw [List.take_add_one, List.set_append_right _ _ (by rw [List.length_take]; omega), List.length_take, Nat.min_eq_left (by omega), Nat.sub_self, List.getElem?_eq_getElem hix]
                  simp
                case measure => simp [natOf]; omega
              · obtain rfl : i = 4 := by omega
                obtain ⟨x0, x1, x2, x3, rfl⟩ := list4 ks hlen
                rw [Nat.sub_self] at hr
                simp only [intsN, List.append_nil, List.take_succ_cons, List.take_zero, Prod.mk.injEq, List.cons.injEq, and_true] at hr
                obtain ⟨⟨rfl, rfl, rfl, rfl⟩, rfl, rfl⟩ := hr
                have HS := Aside0.mk hS
                clear hS
                go_wp2
                go_meet
                case rel => exact ⟨rfl, HS⟩
          · rw [if_neg k3] at h
            have n3 : (kd == 3) = false := beq_eq_false_iff_ne.mpr k3
            simp only [Option.some.injEq, Prod.mk.injEq] at h
            obtain ⟨rfl, rfl, rfl, rfl⟩ := h
            by_cases k4 : kd = 4
            · subst k4
              go_wp2
              go_meet
              case rel => exact ⟨rfl, S4⟩
            · have n4 : (kd == 4) = false := beq_eq_false_iff_ne.mpr k4
              have n5 : (kd == 5) = true := beq_iff_eq.mpr (by have := HRG.out; omega)
              go_wp2
              go_meet
              case rel => exact ⟨rfl, S4⟩
  case rest =>
    obtain ⟨rfl, S⟩ := hcut
    try clear c0
    try clear S4
    try clear S3
    go_wp2
    by_cases a0 : ec = 0
    · subst a0
      by_cases a1 : e' = 0
      · have q1 : (e' == 0) = true := beq_iff_eq.mpr a1
        have A1 := Aside0.mk a1
        clear a1
        refine start_ (n := 14) (S := fun w' => RY w w' p q g #[.int .i64 x.f0, .int .i64 x.f1.f0, .int .i64 x.f1.f1, .int .i64 x.f1.f2, .int .i64 x.f1.f3, .int .i64 x.f1.f4, .int .i64 x.f1.f5, .int .i64 x.f1.f6, .int .i64 x.f1.f7, .int .i64 x.f1.f8, .int .i64 x.f1.f9, .int .i64 x.f1.f10, .bool x.f1.f11, .string x.f2, .int .i64 x.f3, .int .i64 x.f4.f0, .int .i64 x.f4.f1, .int .i64 x.f4.f2, .int .i64 x.f4.f3] bs' e') (ds := []) #[false, false, false, false, false, false, false, false, false, false, false, false, false, false] (by kernel_rfl) rfl rfl (S.out.ry.bel (below_drew1 (Below.refl _ wc))) (fun hHeld => ?_); refine with_tabW rs.tab16 rs.bits16 (fun HT_ HW_ => ?_)
        refine take_ (i := 0) (N := some 43) (v := ?_) (a' := ?_) #[true, false, false, false, false, false, false, false, false, false, false, false, false, false] rfl rfl (take_ofW HT_.out HW_.out (by kernel_rfl)) (fun _ _ _ h => h) (Or.inl ⟨by rfl, ?_⟩) hHeld ?_ ?_
        rotate_left
        · rintro w' s0
          have g0 : w'.cell? ⟨g, 0, none⟩ = some (.int .i64 x.f0) := (blk_cell s0.st 0).trans rfl
          have g1 : w'.cell? ⟨g, 1, none⟩ = some (.int .i64 x.f1.f0) := (blk_cell s0.st 1).trans rfl
          have g2 : w'.cell? ⟨g, 2, none⟩ = some (.int .i64 x.f1.f1) := (blk_cell s0.st 2).trans rfl
          have g3 : w'.cell? ⟨g, 3, none⟩ = some (.int .i64 x.f1.f2) := (blk_cell s0.st 3).trans rfl
          have g4 : w'.cell? ⟨g, 4, none⟩ = some (.int .i64 x.f1.f3) := (blk_cell s0.st 4).trans rfl
          have g5 : w'.cell? ⟨g, 5, none⟩ = some (.int .i64 x.f1.f4) := (blk_cell s0.st 5).trans rfl
          have g6 : w'.cell? ⟨g, 6, none⟩ = some (.int .i64 x.f1.f5) := (blk_cell s0.st 6).trans rfl
          have g7 : w'.cell? ⟨g, 7, none⟩ = some (.int .i64 x.f1.f6) := (blk_cell s0.st 7).trans rfl
          have g8 : w'.cell? ⟨g, 8, none⟩ = some (.int .i64 x.f1.f7) := (blk_cell s0.st 8).trans rfl
          have g9 : w'.cell? ⟨g, 9, none⟩ = some (.int .i64 x.f1.f8) := (blk_cell s0.st 9).trans rfl
          have g10 : w'.cell? ⟨g, 10, none⟩ = some (.int .i64 x.f1.f9) := (blk_cell s0.st 10).trans rfl
          have g11 : w'.cell? ⟨g, 11, none⟩ = some (.int .i64 x.f1.f10) := (blk_cell s0.st 11).trans rfl
          have g12 : w'.cell? ⟨g, 12, none⟩ = some (.bool x.f1.f11) := (blk_cell s0.st 12).trans rfl
          have g13 : w'.cell? ⟨g, 13, none⟩ = some (.string x.f2) := (blk_cell s0.st 13).trans rfl
          have g14 : w'.cell? ⟨g, 14, none⟩ = some (.int .i64 x.f3) := (blk_cell s0.st 14).trans rfl
          have g15 : w'.cell? ⟨g, 15, none⟩ = some (.int .i64 x.f4.f0) := (blk_cell s0.st 15).trans rfl
          have g16 : w'.cell? ⟨g, 16, none⟩ = some (.int .i64 x.f4.f1) := (blk_cell s0.st 16).trans rfl
          have g17 : w'.cell? ⟨g, 17, none⟩ = some (.int .i64 x.f4.f2) := (blk_cell s0.st 17).trans rfl
          have g18 : w'.cell? ⟨g, 18, none⟩ = some (.int .i64 x.f4.f3) := (blk_cell s0.st 18).trans rfl
          go_simp
          with_reducible rfl
        rotate_left
        · simp only [Act.put, List.setIfInBounds_toArray, List.set_cons_zero, List.set_cons_succ, i64_w, i32_w]
          rfl
        refine pure_ (i := 1) (N := some 44) (v := ?_) (a' := ?_) #[true, true, false, false, false, false, false, false, false, false, false, false, false, false] rfl rfl (any_of HT_.out (by kernel_rfl)) (fun _ _ _ h => h) (Or.inl ⟨by rfl, ?_⟩) ?_ ?_
        rotate_left
        · intro w'
          go_simp
          with_reducible rfl
        rotate_left
        · simp only [Act.put, List.setIfInBounds_toArray, List.set_cons_zero, List.set_cons_succ, i64_w, i32_w]
          rfl
        refine pure_ (i := 2) (N := some 45) (v := ?_) (a' := ?_) #[true, true, true, false, false, false, false, false, false, false, false, false, false, false] rfl rfl (any_of HT_.out (by kernel_rfl)) (fun _ _ _ h => h) (Or.inl ⟨by rfl, ?_⟩) ?_ ?_
        rotate_left
        · intro w'
          go_simp
          with_reducible rfl
        rotate_left
        · simp only [Act.put, List.setIfInBounds_toArray, List.set_cons_zero, List.set_cons_succ, i64_w, i32_w]
          rfl
        refine pure_ (i := 3) (N := some 46) (v := ?_) (a' := ?_) #[true, true, true, true, false, false, false, false, false, false, false, false, false, false] rfl rfl (any_of HT_.out (by kernel_rfl)) (fun _ _ _ h => h) (Or.inl ⟨by rfl, ?_⟩) ?_ ?_
        rotate_left
        · intro w'
          go_simp
          with_reducible rfl
        rotate_left
        · simp only [Act.put, List.setIfInBounds_toArray, List.set_cons_zero, List.set_cons_succ, i64_w, i32_w]
          rfl
        refine pure_ (i := 4) (N := some 47) (v := ?_) (a' := ?_) #[true, true, true, true, true, false, false, false, false, false, false, false, false, false] rfl rfl (any_of HT_.out (by kernel_rfl)) (fun _ _ _ h => h) (Or.inl ⟨by rfl, ?_⟩) ?_ ?_
        rotate_left
        · intro w'
          go_simp
          with_reducible rfl
        rotate_left
        · simp only [Act.put, List.setIfInBounds_toArray, List.set_cons_zero, List.set_cons_succ, i64_w, i32_w]
          rfl
        refine one_ (i := 5) (N := some 48) #[true, true, true, true, true, true, false, false, false, false, false, false, false, false] rfl rfl (one_of HT_.out (by kernel_rfl)) (by decide) (fun K hK => ?_)
        refine goes_ Tryd.func37 (by kernel_rfl) rfl #[.pointer (some ⟨p, 0, none⟩)] (by rfl) rfl rfl (by (try simp only [List.map_toArray, List.map_cons, List.map_nil]); first | done | rfl | (simp only [List.length_drop, List.length_take]; rfl)) ?_
        with_reducible refine (bad_calls p bs' e' _ hHeld.cur hHeld.errT).mono ?_
        rintro ev w7 ⟨rfl, hb7⟩
        refine ⟨_, rfl, ?_⟩
        refine hK.out _ _ (hHeld.bel hb7) (fun hHeld => ?_)
        clear hK K
        refine norm_ (a' := ?_) ?_ ?_
        rotate_left
        · show Act.put _ (some 48) _ = _
          simp only [Act.put, List.setIfInBounds_toArray, List.set_cons_zero, List.set_cons_succ, i64_w, i32_w]
          rfl
        refine pure_ (i := 6) (N := some 49) (v := ?_) (a' := ?_) #[true, true, true, true, true, true, true, false, false, false, false, false, false, false] rfl rfl (any_of HT_.out (by kernel_rfl)) (fun _ _ _ h => h) (Or.inl ⟨by rfl, ?_⟩) ?_ ?_
        rotate_left
        · intro w'
          go_simp
          with_reducible rfl
        rotate_left
        · simp only [Act.put, List.setIfInBounds_toArray, List.set_cons_zero, List.set_cons_succ, i64_w, i32_w]
          rfl
        refine pure_ (i := 7) (N := some 50) (v := ?_) (a' := ?_) #[true, true, true, true, true, true, true, true, false, false, false, false, false, false] rfl rfl (any_of HT_.out (by kernel_rfl)) (fun _ _ _ h => h) (Or.inl ⟨by rfl, ?_⟩) ?_ ?_
        rotate_left
        · intro w'
          go_simp
          with_reducible rfl
        rotate_left
        · simp only [Act.put, List.setIfInBounds_toArray, List.set_cons_zero, List.set_cons_succ, i64_w, i32_w]
          rfl
        refine pure_ (i := 8) (N := some 51) (v := ?_) (a' := ?_) #[true, true, true, true, true, true, true, true, true, false, false, false, false, false] rfl rfl (any_of HT_.out (by kernel_rfl)) (fun _ _ _ h => h) (Or.inl ⟨by rfl, ?_⟩) ?_ ?_
        rotate_left
        · intro w'
          go_simp
          with_reducible rfl
        rotate_left
        · simp only [Act.put, List.setIfInBounds_toArray, List.set_cons_zero, List.set_cons_succ, i64_w, i32_w]
          rfl
        refine take_ (i := 9) (N := some 52) (v := ?_) (a' := ?_) #[true, true, true, true, true, true, true, true, true, true, false, false, false, false] rfl rfl (take_ofW HT_.out HW_.out (by kernel_rfl)) (fun _ _ _ h => h) (Or.inl ⟨by rfl, ?_⟩) hHeld ?_ ?_
        rotate_left
        · rintro w' s0
          have g0 : w'.cell? ⟨g, 0, none⟩ = some (.int .i64 x.f0) := (blk_cell s0.st 0).trans rfl
          have g1 : w'.cell? ⟨g, 1, none⟩ = some (.int .i64 x.f1.f0) := (blk_cell s0.st 1).trans rfl
          have g2 : w'.cell? ⟨g, 2, none⟩ = some (.int .i64 x.f1.f1) := (blk_cell s0.st 2).trans rfl
          have g3 : w'.cell? ⟨g, 3, none⟩ = some (.int .i64 x.f1.f2) := (blk_cell s0.st 3).trans rfl
          have g4 : w'.cell? ⟨g, 4, none⟩ = some (.int .i64 x.f1.f3) := (blk_cell s0.st 4).trans rfl
          have g5 : w'.cell? ⟨g, 5, none⟩ = some (.int .i64 x.f1.f4) := (blk_cell s0.st 5).trans rfl
          have g6 : w'.cell? ⟨g, 6, none⟩ = some (.int .i64 x.f1.f5) := (blk_cell s0.st 6).trans rfl
          have g7 : w'.cell? ⟨g, 7, none⟩ = some (.int .i64 x.f1.f6) := (blk_cell s0.st 7).trans rfl
          have g8 : w'.cell? ⟨g, 8, none⟩ = some (.int .i64 x.f1.f7) := (blk_cell s0.st 8).trans rfl
          have g9 : w'.cell? ⟨g, 9, none⟩ = some (.int .i64 x.f1.f8) := (blk_cell s0.st 9).trans rfl
          have g10 : w'.cell? ⟨g, 10, none⟩ = some (.int .i64 x.f1.f9) := (blk_cell s0.st 10).trans rfl
          have g11 : w'.cell? ⟨g, 11, none⟩ = some (.int .i64 x.f1.f10) := (blk_cell s0.st 11).trans rfl
          have g12 : w'.cell? ⟨g, 12, none⟩ = some (.bool x.f1.f11) := (blk_cell s0.st 12).trans rfl
          have g13 : w'.cell? ⟨g, 13, none⟩ = some (.string x.f2) := (blk_cell s0.st 13).trans rfl
          have g14 : w'.cell? ⟨g, 14, none⟩ = some (.int .i64 x.f3) := (blk_cell s0.st 14).trans rfl
          have g15 : w'.cell? ⟨g, 15, none⟩ = some (.int .i64 x.f4.f0) := (blk_cell s0.st 15).trans rfl
          have g16 : w'.cell? ⟨g, 16, none⟩ = some (.int .i64 x.f4.f1) := (blk_cell s0.st 16).trans rfl
          have g17 : w'.cell? ⟨g, 17, none⟩ = some (.int .i64 x.f4.f2) := (blk_cell s0.st 17).trans rfl
          have g18 : w'.cell? ⟨g, 18, none⟩ = some (.int .i64 x.f4.f3) := (blk_cell s0.st 18).trans rfl
          go_simp
          with_reducible rfl
        rotate_left
        · simp only [Act.put, List.setIfInBounds_toArray, List.set_cons_zero, List.set_cons_succ, i64_w, i32_w]
          rfl
        refine one_ (i := 10) (N := some 53) #[true, true, true, true, true, true, true, true, true, true, true, false, false, false] rfl rfl (one_of HT_.out (by kernel_rfl)) (by decide) (fun K hK => ?_)
        refine goes_ Tryd.func10 (by kernel_rfl) rfl #[.agg #[.int .i64 x.f0, .int .i64 x.f1.f0, .int .i64 x.f1.f1, .int .i64 x.f1.f2, .int .i64 x.f1.f3, .int .i64 x.f1.f4, .int .i64 x.f1.f5, .int .i64 x.f1.f6, .int .i64 x.f1.f7, .int .i64 x.f1.f8, .int .i64 x.f1.f9, .int .i64 x.f1.f10, .bool x.f1.f11, .string x.f2, .int .i64 x.f3, .int .i64 x.f4.f0, .int .i64 x.f4.f1, .int .i64 x.f4.f2, .int .i64 x.f4.f3]] (by rfl) rfl rfl (by (try simp only [List.map_toArray, List.map_cons, List.map_nil]); first | done | rfl | (simp only [List.length_drop, List.length_take]; rfl)) ?_
        with_reducible refine (script_Step_Right.calls k x.f0 x.f1.f0 x.f1.f1 x.f1.f2 x.f1.f3 x.f1.f4 x.f1.f5 x.f1.f6 x.f1.f7 x.f1.f8 x.f1.f9 x.f1.f10 x.f1.f11 x.f2 x.f3 x.f4.f0 x.f4.f1 x.f4.f2 x.f4.f3 r _ HRR.out).mono ?_
        rintro ev w8 ⟨rfl, hb8⟩
        refine ⟨_, rfl, ?_⟩
        refine hK.out _ _ (hHeld.bel hb8) (fun hHeld => ?_)
        clear hK K
        refine norm_ (a' := ?_) ?_ ?_
        rotate_left
        · show Act.put _ (some 53) _ = _
          simp only [Act.put, List.setIfInBounds_toArray, List.set_cons_zero, List.set_cons_succ, i64_w, i32_w]
          rfl
        refine pure_ (i := 11) (N := some 54) (v := ?_) (a' := ?_) #[true, true, true, true, true, true, true, true, true, true, true, true, false, false] rfl rfl (any_of HT_.out (by kernel_rfl)) (fun _ _ _ h => h) (Or.inl ⟨by rfl, ?_⟩) ?_ ?_
        rotate_left
        · intro w'
          go_simp
          with_reducible rfl
        rotate_left
        · simp only [Act.put, List.setIfInBounds_toArray, List.set_cons_zero, List.set_cons_succ, i64_w, i32_w]
          rfl
        refine one_ (i := 12) (N := none) #[true, true, true, true, true, true, true, true, true, true, true, true, true, false] rfl rfl (one_of HT_.out (by kernel_rfl)) (by decide) (fun K hK => ?_)
        obtain ⟨rcs, hrc, hrs⟩ := hHeld.res
        rw [if_pos (by rfl)]
        refine wp_store_row 42 (.tmp 2) (.tmp 43) rfl q #[.int .i64 x.f0, .int .i64 x.f1.f0, .int .i64 x.f1.f1, .int .i64 x.f1.f2, .int .i64 x.f1.f3, .int .i64 x.f1.f4, .int .i64 x.f1.f5, .int .i64 x.f1.f6, .int .i64 x.f1.f7, .int .i64 x.f1.f8, .int .i64 x.f1.f9, .int .i64 x.f1.f10, .bool x.f1.f11, .string x.f2, .int .i64 x.f3, .int .i64 x.f4.f0, .int .i64 x.f4.f1, .int .i64 x.f4.f2, .int .i64 x.f4.f3] rfl rfl 42 rcs hrc (by kernel_rfl) hrs (by simp [Value.oneCell']) ?_
        have bq := setRow_heap _ q rcs #[.int .i64 x.f0, .int .i64 x.f1.f0, .int .i64 x.f1.f1, .int .i64 x.f1.f2, .int .i64 x.f1.f3, .int .i64 x.f1.f4, .int .i64 x.f1.f5, .int .i64 x.f1.f6, .int .i64 x.f1.f7, .int .i64 x.f1.f8, .int .i64 x.f1.f9, .int .i64 x.f1.f10, .bool x.f1.f11, .string x.f2, .int .i64 x.f3, .int .i64 x.f4.f0, .int .i64 x.f4.f1, .int .i64 x.f4.f2, .int .i64 x.f4.f3] 42 (0, 0) hrc
        refine hK.out _ _ (hHeld.fill bq rfl) (fun hHeld => ?_)
        clear hK K
        refine norm_ (a' := ?_) ?_ ?_
        rotate_left
        · show Act.put _ none _ = _
          simp only [Act.put, List.setIfInBounds_toArray, List.set_cons_zero, List.set_cons_succ, i64_w, i32_w]
          rfl
        refine pure_ (i := 13) (N := some 3) (v := ?_) (a' := ?_) #[true, true, true, true, true, true, true, true, true, true, true, true, true, true] rfl rfl (any_of HT_.out (by kernel_rfl)) (fun _ _ _ h => h) (Or.inl ⟨by rfl, ?_⟩) ?_ ?_
        rotate_left
        · intro w'
          go_simp
          with_reducible rfl
        rotate_left
        · simp only [Act.put, List.setIfInBounds_toArray, List.set_cons_zero, List.set_cons_succ, i64_w, i32_w]
          rfl
        refine done_ (done_of HT_.out (by kernel_rfl)) ?_
        go_wp2
        refine bodyPost_ret (results_ct rfl _ _ q 42 #[.int .i64 x.f0, .int .i64 x.f1.f0, .int .i64 x.f1.f1, .int .i64 x.f1.f2, .int .i64 x.f1.f3, .int .i64 x.f1.f4, .int .i64 x.f1.f5, .int .i64 x.f1.f6, .int .i64 x.f1.f7, .int .i64 x.f1.f8, .int .i64 x.f1.f9, .int .i64 x.f1.f10, .bool x.f1.f11, .string x.f2, .int .i64 x.f3, .int .i64 x.f4.f0, .int .i64 x.f4.f1, .int .i64 x.f4.f2, .int .i64 x.f4.f3] (0, 0) _ rfl bq Tryd.underlying42 rfl (by kernel_rfl)) rfl ?_
        exact ⟨by rw [decide_eq_true A1.out]; simp, hHeld.cur, hHeld.near⟩
      · have q1 : (e' == 0) = false := beq_eq_false_iff_ne.mpr a1
        have A1 := Aside0.mk a1
        clear a1
        refine start_ (n := 14) (S := fun w' => RY w w' p q g #[.int .i64 x.f0, .int .i64 x.f1.f0, .int .i64 x.f1.f1, .int .i64 x.f1.f2, .int .i64 x.f1.f3, .int .i64 x.f1.f4, .int .i64 x.f1.f5, .int .i64 x.f1.f6, .int .i64 x.f1.f7, .int .i64 x.f1.f8, .int .i64 x.f1.f9, .int .i64 x.f1.f10, .bool x.f1.f11, .string x.f2, .int .i64 x.f3, .int .i64 x.f4.f0, .int .i64 x.f4.f1, .int .i64 x.f4.f2, .int .i64 x.f4.f3] bs' e') (ds := []) #[false, false, false, false, false, false, false, false, false, false, false, false, false, false] (by kernel_rfl) rfl rfl (S.out.ry.bel (below_drew1 (Below.refl _ wc))) (fun hHeld => ?_); refine with_tabW rs.tab16 rs.bits16 (fun HT_ HW_ => ?_)
        refine take_ (i := 0) (N := some 43) (v := ?_) (a' := ?_) #[true, false, false, false, false, false, false, false, false, false, false, false, false, false] rfl rfl (take_ofW HT_.out HW_.out (by kernel_rfl)) (fun _ _ _ h => h) (Or.inl ⟨by rfl, ?_⟩) hHeld ?_ ?_
        rotate_left
        · rintro w' s0
          have g0 : w'.cell? ⟨g, 0, none⟩ = some (.int .i64 x.f0) := (blk_cell s0.st 0).trans rfl
          have g1 : w'.cell? ⟨g, 1, none⟩ = some (.int .i64 x.f1.f0) := (blk_cell s0.st 1).trans rfl
          have g2 : w'.cell? ⟨g, 2, none⟩ = some (.int .i64 x.f1.f1) := (blk_cell s0.st 2).trans rfl
          have g3 : w'.cell? ⟨g, 3, none⟩ = some (.int .i64 x.f1.f2) := (blk_cell s0.st 3).trans rfl
          have g4 : w'.cell? ⟨g, 4, none⟩ = some (.int .i64 x.f1.f3) := (blk_cell s0.st 4).trans rfl
          have g5 : w'.cell? ⟨g, 5, none⟩ = some (.int .i64 x.f1.f4) := (blk_cell s0.st 5).trans rfl
          have g6 : w'.cell? ⟨g, 6, none⟩ = some (.int .i64 x.f1.f5) := (blk_cell s0.st 6).trans rfl
          have g7 : w'.cell? ⟨g, 7, none⟩ = some (.int .i64 x.f1.f6) := (blk_cell s0.st 7).trans rfl
          have g8 : w'.cell? ⟨g, 8, none⟩ = some (.int .i64 x.f1.f7) := (blk_cell s0.st 8).trans rfl
          have g9 : w'.cell? ⟨g, 9, none⟩ = some (.int .i64 x.f1.f8) := (blk_cell s0.st 9).trans rfl
          have g10 : w'.cell? ⟨g, 10, none⟩ = some (.int .i64 x.f1.f9) := (blk_cell s0.st 10).trans rfl
          have g11 : w'.cell? ⟨g, 11, none⟩ = some (.int .i64 x.f1.f10) := (blk_cell s0.st 11).trans rfl
          have g12 : w'.cell? ⟨g, 12, none⟩ = some (.bool x.f1.f11) := (blk_cell s0.st 12).trans rfl
          have g13 : w'.cell? ⟨g, 13, none⟩ = some (.string x.f2) := (blk_cell s0.st 13).trans rfl
          have g14 : w'.cell? ⟨g, 14, none⟩ = some (.int .i64 x.f3) := (blk_cell s0.st 14).trans rfl
          have g15 : w'.cell? ⟨g, 15, none⟩ = some (.int .i64 x.f4.f0) := (blk_cell s0.st 15).trans rfl
          have g16 : w'.cell? ⟨g, 16, none⟩ = some (.int .i64 x.f4.f1) := (blk_cell s0.st 16).trans rfl
          have g17 : w'.cell? ⟨g, 17, none⟩ = some (.int .i64 x.f4.f2) := (blk_cell s0.st 17).trans rfl
          have g18 : w'.cell? ⟨g, 18, none⟩ = some (.int .i64 x.f4.f3) := (blk_cell s0.st 18).trans rfl
          go_simp
          with_reducible rfl
        rotate_left
        · simp only [Act.put, List.setIfInBounds_toArray, List.set_cons_zero, List.set_cons_succ, i64_w, i32_w]
          rfl
        refine pure_ (i := 1) (N := some 44) (v := ?_) (a' := ?_) #[true, true, false, false, false, false, false, false, false, false, false, false, false, false] rfl rfl (any_of HT_.out (by kernel_rfl)) (fun _ _ _ h => h) (Or.inl ⟨by rfl, ?_⟩) ?_ ?_
        rotate_left
        · intro w'
          go_simp
          with_reducible rfl
        rotate_left
        · simp only [Act.put, List.setIfInBounds_toArray, List.set_cons_zero, List.set_cons_succ, i64_w, i32_w]
          rfl
        refine pure_ (i := 2) (N := some 45) (v := ?_) (a' := ?_) #[true, true, true, false, false, false, false, false, false, false, false, false, false, false] rfl rfl (any_of HT_.out (by kernel_rfl)) (fun _ _ _ h => h) (Or.inl ⟨by rfl, ?_⟩) ?_ ?_
        rotate_left
        · intro w'
          go_simp
          with_reducible rfl
        rotate_left
        · simp only [Act.put, List.setIfInBounds_toArray, List.set_cons_zero, List.set_cons_succ, i64_w, i32_w]
          rfl
        refine pure_ (i := 3) (N := some 46) (v := ?_) (a' := ?_) #[true, true, true, true, false, false, false, false, false, false, false, false, false, false] rfl rfl (any_of HT_.out (by kernel_rfl)) (fun _ _ _ h => h) (Or.inl ⟨by rfl, ?_⟩) ?_ ?_
        rotate_left
        · intro w'
          go_simp
          with_reducible rfl
        rotate_left
        · simp only [Act.put, List.setIfInBounds_toArray, List.set_cons_zero, List.set_cons_succ, i64_w, i32_w]
          rfl
        refine pure_ (i := 4) (N := some 47) (v := ?_) (a' := ?_) #[true, true, true, true, true, false, false, false, false, false, false, false, false, false] rfl rfl (any_of HT_.out (by kernel_rfl)) (fun _ _ _ h => h) (Or.inl ⟨by rfl, ?_⟩) ?_ ?_
        rotate_left
        · intro w'
          go_simp
          with_reducible rfl
        rotate_left
        · simp only [Act.put, List.setIfInBounds_toArray, List.set_cons_zero, List.set_cons_succ, i64_w, i32_w]
          rfl
        refine one_ (i := 5) (N := some 48) #[true, true, true, true, true, true, false, false, false, false, false, false, false, false] rfl rfl (one_of HT_.out (by kernel_rfl)) (by decide) (fun K hK => ?_)
        refine goes_ Tryd.func37 (by kernel_rfl) rfl #[.pointer (some ⟨p, 0, none⟩)] (by rfl) rfl rfl (by (try simp only [List.map_toArray, List.map_cons, List.map_nil]); first | done | rfl | (simp only [List.length_drop, List.length_take]; rfl)) ?_
        with_reducible refine (bad_calls p bs' e' _ hHeld.cur hHeld.errT).mono ?_
        rintro ev w7 ⟨rfl, hb7⟩
        refine ⟨_, rfl, ?_⟩
        refine hK.out _ _ (hHeld.bel hb7) (fun hHeld => ?_)
        clear hK K
        refine norm_ (a' := ?_) ?_ ?_
        rotate_left
        · show Act.put _ (some 48) _ = _
          simp only [Act.put, List.setIfInBounds_toArray, List.set_cons_zero, List.set_cons_succ, i64_w, i32_w]
          rfl
        refine pure_ (i := 6) (N := some 49) (v := ?_) (a' := ?_) #[true, true, true, true, true, true, true, false, false, false, false, false, false, false] rfl rfl (any_of HT_.out (by kernel_rfl)) (fun _ _ _ h => h) (Or.inl ⟨by rfl, ?_⟩) ?_ ?_
        rotate_left
        · intro w'
          go_simp
          with_reducible rfl
        rotate_left
        · simp only [Act.put, List.setIfInBounds_toArray, List.set_cons_zero, List.set_cons_succ, i64_w, i32_w]
          rfl
        refine pure_ (i := 7) (N := some 50) (v := ?_) (a' := ?_) #[true, true, true, true, true, true, true, true, false, false, false, false, false, false] rfl rfl (any_of HT_.out (by kernel_rfl)) (fun _ _ _ h => h) (Or.inl ⟨by rfl, ?_⟩) ?_ ?_
        rotate_left
        · intro w'
          go_simp
          with_reducible rfl
        rotate_left
        · simp only [Act.put, List.setIfInBounds_toArray, List.set_cons_zero, List.set_cons_succ, i64_w, i32_w]
          rfl
        refine pure_ (i := 8) (N := some 51) (v := ?_) (a' := ?_) #[true, true, true, true, true, true, true, true, true, false, false, false, false, false] rfl rfl (any_of HT_.out (by kernel_rfl)) (fun _ _ _ h => h) (Or.inl ⟨by rfl, ?_⟩) ?_ ?_
        rotate_left
        · intro w'
          go_simp
          with_reducible rfl
        rotate_left
        · simp only [Act.put, List.setIfInBounds_toArray, List.set_cons_zero, List.set_cons_succ, i64_w, i32_w]
          rfl
        refine pure_ (i := 9) (N := some 52) (v := undef) (a' := ?_) #[true, true, true, true, true, true, true, true, true, true, false, false, false, false] rfl rfl (any_of HT_.out (by kernel_rfl)) (fun _ _ _ h => h) (Or.inr ⟨by rfl, rfl⟩) ?_ ?_
        rotate_left
        · simp only [Act.put, List.setIfInBounds_toArray, List.set_cons_zero, List.set_cons_succ, i64_w, i32_w]
          rfl
        refine pure_ (i := 10) (N := some 53) (v := undef) (a' := ?_) #[true, true, true, true, true, true, true, true, true, true, true, false, false, false] rfl rfl (any_of HT_.out (by kernel_rfl)) (fun _ _ _ h => h) (Or.inr ⟨by rfl, rfl⟩) ?_ ?_
        rotate_left
        · simp only [Act.put, List.setIfInBounds_toArray, List.set_cons_zero, List.set_cons_succ, i64_w, i32_w]
          rfl
        refine pure_ (i := 11) (N := some 54) (v := ?_) (a' := ?_) #[true, true, true, true, true, true, true, true, true, true, true, true, false, false] rfl rfl (any_of HT_.out (by kernel_rfl)) (fun _ _ _ h => h) (Or.inl ⟨by rfl, ?_⟩) ?_ ?_
        rotate_left
        · intro w'
          go_simp
          with_reducible rfl
        rotate_left
        · simp only [Act.put, List.setIfInBounds_toArray, List.set_cons_zero, List.set_cons_succ, i64_w, i32_w]
          rfl
        refine one_ (i := 12) (N := none) #[true, true, true, true, true, true, true, true, true, true, true, true, true, false] rfl rfl (one_of HT_.out (by kernel_rfl)) (by decide) (fun K hK => ?_)
        obtain ⟨rcs, hrc, hrs⟩ := hHeld.res
        rw [if_pos (by rfl)]
        refine wp_store_row 42 (.tmp 2) (.tmp 43) rfl q #[.int .i64 x.f0, .int .i64 x.f1.f0, .int .i64 x.f1.f1, .int .i64 x.f1.f2, .int .i64 x.f1.f3, .int .i64 x.f1.f4, .int .i64 x.f1.f5, .int .i64 x.f1.f6, .int .i64 x.f1.f7, .int .i64 x.f1.f8, .int .i64 x.f1.f9, .int .i64 x.f1.f10, .bool x.f1.f11, .string x.f2, .int .i64 x.f3, .int .i64 x.f4.f0, .int .i64 x.f4.f1, .int .i64 x.f4.f2, .int .i64 x.f4.f3] rfl rfl 42 rcs hrc (by kernel_rfl) hrs (by simp [Value.oneCell']) ?_
        have bq := setRow_heap _ q rcs #[.int .i64 x.f0, .int .i64 x.f1.f0, .int .i64 x.f1.f1, .int .i64 x.f1.f2, .int .i64 x.f1.f3, .int .i64 x.f1.f4, .int .i64 x.f1.f5, .int .i64 x.f1.f6, .int .i64 x.f1.f7, .int .i64 x.f1.f8, .int .i64 x.f1.f9, .int .i64 x.f1.f10, .bool x.f1.f11, .string x.f2, .int .i64 x.f3, .int .i64 x.f4.f0, .int .i64 x.f4.f1, .int .i64 x.f4.f2, .int .i64 x.f4.f3] 42 (0, 0) hrc
        refine hK.out _ _ (hHeld.fill bq rfl) (fun hHeld => ?_)
        clear hK K
        refine norm_ (a' := ?_) ?_ ?_
        rotate_left
        · show Act.put _ none _ = _
          simp only [Act.put, List.setIfInBounds_toArray, List.set_cons_zero, List.set_cons_succ, i64_w, i32_w]
          rfl
        refine pure_ (i := 13) (N := some 3) (v := ?_) (a' := ?_) #[true, true, true, true, true, true, true, true, true, true, true, true, true, true] rfl rfl (any_of HT_.out (by kernel_rfl)) (fun _ _ _ h => h) (Or.inl ⟨by rfl, ?_⟩) ?_ ?_
        rotate_left
        · intro w'
          go_simp
          with_reducible rfl
        rotate_left
        · simp only [Act.put, List.setIfInBounds_toArray, List.set_cons_zero, List.set_cons_succ, i64_w, i32_w]
          rfl
        refine done_ (done_of HT_.out (by kernel_rfl)) ?_
        go_wp2
        refine bodyPost_ret (results_ct rfl _ _ q 42 #[.int .i64 x.f0, .int .i64 x.f1.f0, .int .i64 x.f1.f1, .int .i64 x.f1.f2, .int .i64 x.f1.f3, .int .i64 x.f1.f4, .int .i64 x.f1.f5, .int .i64 x.f1.f6, .int .i64 x.f1.f7, .int .i64 x.f1.f8, .int .i64 x.f1.f9, .int .i64 x.f1.f10, .bool x.f1.f11, .string x.f2, .int .i64 x.f3, .int .i64 x.f4.f0, .int .i64 x.f4.f1, .int .i64 x.f4.f2, .int .i64 x.f4.f3] (0, 0) _ rfl bq Tryd.underlying42 rfl (by kernel_rfl)) rfl ?_
        exact ⟨by rw [decide_eq_false A1.out]; rfl, hHeld.cur, hHeld.near⟩
    · have q0 : (ec == 0) = false := beq_eq_false_iff_ne.mpr a0
      have A0 := Aside0.mk a0
      clear a0
      refine start_ (n := 14) (S := fun w' => RY w w' p q g #[.int .i64 x.f0, .int .i64 x.f1.f0, .int .i64 x.f1.f1, .int .i64 x.f1.f2, .int .i64 x.f1.f3, .int .i64 x.f1.f4, .int .i64 x.f1.f5, .int .i64 x.f1.f6, .int .i64 x.f1.f7, .int .i64 x.f1.f8, .int .i64 x.f1.f9, .int .i64 x.f1.f10, .bool x.f1.f11, .string x.f2, .int .i64 x.f3, .int .i64 x.f4.f0, .int .i64 x.f4.f1, .int .i64 x.f4.f2, .int .i64 x.f4.f3] bs' e') (ds := []) #[false, false, false, false, false, false, false, false, false, false, false, false, false, false] (by kernel_rfl) rfl rfl (S.out.ry.bel (below_drew1 (Below.refl _ wc))) (fun hHeld => ?_); refine with_tabW rs.tab16 rs.bits16 (fun HT_ HW_ => ?_)
      refine take_ (i := 0) (N := some 43) (v := ?_) (a' := ?_) #[true, false, false, false, false, false, false, false, false, false, false, false, false, false] rfl rfl (take_ofW HT_.out HW_.out (by kernel_rfl)) (fun _ _ _ h => h) (Or.inl ⟨by rfl, ?_⟩) hHeld ?_ ?_
      rotate_left
      · rintro w' s0
        have g0 : w'.cell? ⟨g, 0, none⟩ = some (.int .i64 x.f0) := (blk_cell s0.st 0).trans rfl
        have g1 : w'.cell? ⟨g, 1, none⟩ = some (.int .i64 x.f1.f0) := (blk_cell s0.st 1).trans rfl
        have g2 : w'.cell? ⟨g, 2, none⟩ = some (.int .i64 x.f1.f1) := (blk_cell s0.st 2).trans rfl
        have g3 : w'.cell? ⟨g, 3, none⟩ = some (.int .i64 x.f1.f2) := (blk_cell s0.st 3).trans rfl
        have g4 : w'.cell? ⟨g, 4, none⟩ = some (.int .i64 x.f1.f3) := (blk_cell s0.st 4).trans rfl
        have g5 : w'.cell? ⟨g, 5, none⟩ = some (.int .i64 x.f1.f4) := (blk_cell s0.st 5).trans rfl
        have g6 : w'.cell? ⟨g, 6, none⟩ = some (.int .i64 x.f1.f5) := (blk_cell s0.st 6).trans rfl
        have g7 : w'.cell? ⟨g, 7, none⟩ = some (.int .i64 x.f1.f6) := (blk_cell s0.st 7).trans rfl
        have g8 : w'.cell? ⟨g, 8, none⟩ = some (.int .i64 x.f1.f7) := (blk_cell s0.st 8).trans rfl
        have g9 : w'.cell? ⟨g, 9, none⟩ = some (.int .i64 x.f1.f8) := (blk_cell s0.st 9).trans rfl
        have g10 : w'.cell? ⟨g, 10, none⟩ = some (.int .i64 x.f1.f9) := (blk_cell s0.st 10).trans rfl
        have g11 : w'.cell? ⟨g, 11, none⟩ = some (.int .i64 x.f1.f10) := (blk_cell s0.st 11).trans rfl
        have g12 : w'.cell? ⟨g, 12, none⟩ = some (.bool x.f1.f11) := (blk_cell s0.st 12).trans rfl
        have g13 : w'.cell? ⟨g, 13, none⟩ = some (.string x.f2) := (blk_cell s0.st 13).trans rfl
        have g14 : w'.cell? ⟨g, 14, none⟩ = some (.int .i64 x.f3) := (blk_cell s0.st 14).trans rfl
        have g15 : w'.cell? ⟨g, 15, none⟩ = some (.int .i64 x.f4.f0) := (blk_cell s0.st 15).trans rfl
        have g16 : w'.cell? ⟨g, 16, none⟩ = some (.int .i64 x.f4.f1) := (blk_cell s0.st 16).trans rfl
        have g17 : w'.cell? ⟨g, 17, none⟩ = some (.int .i64 x.f4.f2) := (blk_cell s0.st 17).trans rfl
        have g18 : w'.cell? ⟨g, 18, none⟩ = some (.int .i64 x.f4.f3) := (blk_cell s0.st 18).trans rfl
        go_simp
        with_reducible rfl
      rotate_left
      · simp only [Act.put, List.setIfInBounds_toArray, List.set_cons_zero, List.set_cons_succ, i64_w, i32_w]
        rfl
      refine pure_ (i := 1) (N := some 44) (v := ?_) (a' := ?_) #[true, true, false, false, false, false, false, false, false, false, false, false, false, false] rfl rfl (any_of HT_.out (by kernel_rfl)) (fun _ _ _ h => h) (Or.inl ⟨by rfl, ?_⟩) ?_ ?_
      rotate_left
      · intro w'
        go_simp
        with_reducible rfl
      rotate_left
      · simp only [Act.put, List.setIfInBounds_toArray, List.set_cons_zero, List.set_cons_succ, i64_w, i32_w]
        rfl
      refine pure_ (i := 2) (N := some 45) (v := ?_) (a' := ?_) #[true, true, true, false, false, false, false, false, false, false, false, false, false, false] rfl rfl (any_of HT_.out (by kernel_rfl)) (fun _ _ _ h => h) (Or.inl ⟨by rfl, ?_⟩) ?_ ?_
      rotate_left
      · intro w'
        go_simp
        with_reducible rfl
      rotate_left
      · simp only [Act.put, List.setIfInBounds_toArray, List.set_cons_zero, List.set_cons_succ, i64_w, i32_w]
        rfl
      refine pure_ (i := 3) (N := some 46) (v := ?_) (a' := ?_) #[true, true, true, true, false, false, false, false, false, false, false, false, false, false] rfl rfl (any_of HT_.out (by kernel_rfl)) (fun _ _ _ h => h) (Or.inl ⟨by rfl, ?_⟩) ?_ ?_
      rotate_left
      · intro w'
        go_simp
        with_reducible rfl
      rotate_left
      · simp only [Act.put, List.setIfInBounds_toArray, List.set_cons_zero, List.set_cons_succ, i64_w, i32_w]
        rfl
      refine pure_ (i := 4) (N := some 47) (v := undef) (a' := ?_) #[true, true, true, true, true, false, false, false, false, false, false, false, false, false] rfl rfl (any_of HT_.out (by kernel_rfl)) (fun _ _ _ h => h) (Or.inr ⟨by rfl, rfl⟩) ?_ ?_
      rotate_left
      · simp only [Act.put, List.setIfInBounds_toArray, List.set_cons_zero, List.set_cons_succ, i64_w, i32_w]
        rfl
      refine pure_ (i := 5) (N := some 48) (v := undef) (a' := ?_) #[true, true, true, true, true, true, false, false, false, false, false, false, false, false] rfl rfl (any_of HT_.out (by kernel_rfl)) (fun _ _ _ h => h) (Or.inr ⟨by rfl, rfl⟩) ?_ ?_
      rotate_left
      · simp only [Act.put, List.setIfInBounds_toArray, List.set_cons_zero, List.set_cons_succ, i64_w, i32_w]
        rfl
      refine pure_ (i := 6) (N := some 49) (v := undef) (a' := ?_) #[true, true, true, true, true, true, true, false, false, false, false, false, false, false] rfl rfl (any_of HT_.out (by kernel_rfl)) (fun _ _ _ h => h) (Or.inr ⟨by rfl, rfl⟩) ?_ ?_
      rotate_left
      · simp only [Act.put, List.setIfInBounds_toArray, List.set_cons_zero, List.set_cons_succ, i64_w, i32_w]
        rfl
      refine pure_ (i := 7) (N := some 50) (v := ?_) (a' := ?_) #[true, true, true, true, true, true, true, true, false, false, false, false, false, false] rfl rfl (any_of HT_.out (by kernel_rfl)) (fun _ _ _ h => h) (Or.inl ⟨by rfl, ?_⟩) ?_ ?_
      rotate_left
      · intro w'
        go_simp
        with_reducible rfl
      rotate_left
      · simp only [Act.put, List.setIfInBounds_toArray, List.set_cons_zero, List.set_cons_succ, i64_w, i32_w]
        rfl
      refine pure_ (i := 8) (N := some 51) (v := ?_) (a' := ?_) #[true, true, true, true, true, true, true, true, true, false, false, false, false, false] rfl rfl (any_of HT_.out (by kernel_rfl)) (fun _ _ _ h => h) (Or.inl ⟨by rfl, ?_⟩) ?_ ?_
      rotate_left
      · intro w'
        go_simp
        with_reducible rfl
      rotate_left
      · simp only [Act.put, List.setIfInBounds_toArray, List.set_cons_zero, List.set_cons_succ, i64_w, i32_w]
        rfl
      refine pure_ (i := 9) (N := some 52) (v := undef) (a' := ?_) #[true, true, true, true, true, true, true, true, true, true, false, false, false, false] rfl rfl (any_of HT_.out (by kernel_rfl)) (fun _ _ _ h => h) (Or.inr ⟨by rfl, rfl⟩) ?_ ?_
      rotate_left
      · simp only [Act.put, List.setIfInBounds_toArray, List.set_cons_zero, List.set_cons_succ, i64_w, i32_w]
        rfl
      refine pure_ (i := 10) (N := some 53) (v := undef) (a' := ?_) #[true, true, true, true, true, true, true, true, true, true, true, false, false, false] rfl rfl (any_of HT_.out (by kernel_rfl)) (fun _ _ _ h => h) (Or.inr ⟨by rfl, rfl⟩) ?_ ?_
      rotate_left
      · simp only [Act.put, List.setIfInBounds_toArray, List.set_cons_zero, List.set_cons_succ, i64_w, i32_w]
        rfl
      refine pure_ (i := 11) (N := some 54) (v := ?_) (a' := ?_) #[true, true, true, true, true, true, true, true, true, true, true, true, false, false] rfl rfl (any_of HT_.out (by kernel_rfl)) (fun _ _ _ h => h) (Or.inl ⟨by rfl, ?_⟩) ?_ ?_
      rotate_left
      · intro w'
        go_simp
        with_reducible rfl
      rotate_left
      · simp only [Act.put, List.setIfInBounds_toArray, List.set_cons_zero, List.set_cons_succ, i64_w, i32_w]
        rfl
      refine one_ (i := 12) (N := none) #[true, true, true, true, true, true, true, true, true, true, true, true, true, false] rfl rfl (one_of HT_.out (by kernel_rfl)) (by decide) (fun K hK => ?_)
      obtain ⟨rcs, hrc, hrs⟩ := hHeld.res
      rw [if_pos (by rfl)]
      refine wp_store_row 42 (.tmp 2) (.tmp 43) rfl q #[.int .i64 x.f0, .int .i64 x.f1.f0, .int .i64 x.f1.f1, .int .i64 x.f1.f2, .int .i64 x.f1.f3, .int .i64 x.f1.f4, .int .i64 x.f1.f5, .int .i64 x.f1.f6, .int .i64 x.f1.f7, .int .i64 x.f1.f8, .int .i64 x.f1.f9, .int .i64 x.f1.f10, .bool x.f1.f11, .string x.f2, .int .i64 x.f3, .int .i64 x.f4.f0, .int .i64 x.f4.f1, .int .i64 x.f4.f2, .int .i64 x.f4.f3] rfl rfl 42 rcs hrc (by kernel_rfl) hrs (by simp [Value.oneCell']) ?_
      have bq := setRow_heap _ q rcs #[.int .i64 x.f0, .int .i64 x.f1.f0, .int .i64 x.f1.f1, .int .i64 x.f1.f2, .int .i64 x.f1.f3, .int .i64 x.f1.f4, .int .i64 x.f1.f5, .int .i64 x.f1.f6, .int .i64 x.f1.f7, .int .i64 x.f1.f8, .int .i64 x.f1.f9, .int .i64 x.f1.f10, .bool x.f1.f11, .string x.f2, .int .i64 x.f3, .int .i64 x.f4.f0, .int .i64 x.f4.f1, .int .i64 x.f4.f2, .int .i64 x.f4.f3] 42 (0, 0) hrc
      refine hK.out _ _ (hHeld.fill bq rfl) (fun hHeld => ?_)
      clear hK K
      refine norm_ (a' := ?_) ?_ ?_
      rotate_left
      · show Act.put _ none _ = _
        simp only [Act.put, List.setIfInBounds_toArray, List.set_cons_zero, List.set_cons_succ, i64_w, i32_w]
        rfl
      refine pure_ (i := 13) (N := some 3) (v := ?_) (a' := ?_) #[true, true, true, true, true, true, true, true, true, true, true, true, true, true] rfl rfl (any_of HT_.out (by kernel_rfl)) (fun _ _ _ h => h) (Or.inl ⟨by rfl, ?_⟩) ?_ ?_
      rotate_left
      · intro w'
        go_simp
        with_reducible rfl
      rotate_left
      · simp only [Act.put, List.setIfInBounds_toArray, List.set_cons_zero, List.set_cons_succ, i64_w, i32_w]
        rfl
      refine done_ (done_of HT_.out (by kernel_rfl)) ?_
      go_wp2
      refine bodyPost_ret (results_ct rfl _ _ q 42 #[.int .i64 x.f0, .int .i64 x.f1.f0, .int .i64 x.f1.f1, .int .i64 x.f1.f2, .int .i64 x.f1.f3, .int .i64 x.f1.f4, .int .i64 x.f1.f5, .int .i64 x.f1.f6, .int .i64 x.f1.f7, .int .i64 x.f1.f8, .int .i64 x.f1.f9, .int .i64 x.f1.f10, .bool x.f1.f11, .string x.f2, .int .i64 x.f3, .int .i64 x.f4.f0, .int .i64 x.f4.f1, .int .i64 x.f4.f2, .int .i64 x.f4.f3] (0, 0) _ rfl bq Tryd.underlying42 rfl (by kernel_rfl)) rfl ?_
      exact ⟨by rw [decide_eq_false A0.out]; rfl, hHeld.cur, hHeld.near⟩
end Go.Proofs.YtkkjjogbfjahgaaDoor.Sc
