/- A part of the proofs over usage and fit (UD): contracts of the program's functions and plain laws of levels. Conditions: those that each theorem states. -/
import Derived.Test.YtlddccmgamlccaaUC
import Derived.Test.YtlddccmgamlccaaUR
set_option linter.unusedVariables false
set_option linter.unusedSimpArgs false
namespace Go.Proofs.Ytlddccmgamlccaa.Us
open Go Go.Proofs Go.RowKit Go.Lib Go.Proofs.YtlddccmgamlccaaW.PrintWords Go.Proofs.YtlddccmgamlccaaW.PrintLast Go.Proofs.YtlddccmgamlccaaW.PrintMore
open Go.Proofs.Ytlddccmgamlccaa.PFitRoom (S55 S98 k98 z98 rd_T98)

/-! ### the reference's levels -/
def holdsR (a b t : Int) : Bool := decide ((if clT a ≥ clT b then 0 else clT a) ≤ clT t) && decide (clT t < (if clT a ≥ clT b then 0 else clT b))
def stepR (t : Int) (v : Int) (c : S98) : Int := if holdsR c.f0.f0 c.f0.f1 t = true then (if c.f1 = true then lvT c.f2 else lvT (v + byT c.f2)) else v
def atT (t : Int) : Int := if clT t = 1099511627776 then 1099511627775 else clT t
def refAt (first : Int) (l : List S98) (t : Int) : Int := l.foldl (stepR (atT t)) (lvT first)

theorem rclamp_eq (t : Int) : berthingref01_Clamp.f t = some (clT t) := by
 unfold berthingref01_Clamp.f clT mx mn
 (repeat' split) <;> first | rfl | (exfalso; omega) | (congr 1; omega)
theorem rholds_eq (a b t : Int) : berthingref01_Span_Holds.f a b t = some (holdsR a b t) := by
 unfold berthingref01_Span_Holds.f berthingref01_Span_Clean.f holdsR
 rw [rclamp_eq, rclamp_eq, rclamp_eq]
 simp only [Option.bind_some]
 by_cases h : clT a ≥ clT b
 ·simp only [if_pos h, Option.bind_some]
  split
  ·rename_i h2; rw [decide_eq_true h2, Bool.true_and]
  ·rename_i h2; rw [decide_eq_false h2, Bool.false_and]
 ·simp only [if_neg h, Option.bind_some]
  split
  ·rename_i h2; rw [decide_eq_true h2, Bool.true_and]
  ·rename_i h2; rw [decide_eq_false h2, Bool.false_and]
theorem rd_change {l : List S98} (i : Nat) (h : i < l.length) : rd_T98 l (i : Int) = l[i] := by
 unfold PFitRoom.rd_T98
 rw [Int.toNat_natCast, List.getD_eq_getElem?_getD, List.getElem?_eq_getElem h, Option.getD_some]
theorem stepR_range (t v : Int) (c : S98) (h : -1000000 ≤ v ∧ v ≤ 1000000) : -1000000 ≤ stepR t v c ∧ stepR t v c ≤ 1000000 := by
 unfold stepR
 split
 ·split <;> exact lvT_range _
 ·exact h
theorem refAt_range (first : Int) (l : List S98) (t : Int) : -1000000 ≤ refAt first l t ∧ refAt first l t ≤ 1000000 := by
 unfold refAt
 suffices h : ∀ (l : List S98) (v : Int), (-1000000 ≤ v ∧ v ≤ 1000000) → -1000000 ≤ l.foldl (stepR (atT t)) v ∧ l.foldl (stepR (atT t)) v ≤ 1000000 from h l _ (lvT_range _)
 intro l
 induction l with
 | nil => intro v h; exact h
 | cons c l ih => intro v h; exact ih _ (stepR_range _ _ _ h)
theorem at_l0 (t first : Int) (l : List S98) (hl : l.length < 4611686018427387904) : ∀ (d k : Nat) (v : Int) (i : Nat), l.length - i = d → i ≤ l.length → d < k → (-1000000 ≤ v ∧ v ≤ 1000000) →
  berthingref10_Steps_At.l0 k t v (i : Int) first l = some ((l.drop i).foldl (stepR t) v)
 | 0, k, v, i, hd, hi, hk, hv => by
  obtain ⟨k, rfl⟩ : ∃ m, k = m + 1 := ⟨k - 1, by omega⟩
  simp only [berthingref10_Steps_At.l0]
  rw [if_neg (by omega), List.drop_of_length_le (by omega)]
  rfl
 | d + 1, k, v, i, hd, hi, hk, hv => by
  obtain ⟨k, rfl⟩ : ∃ m, k = m + 1 := ⟨k - 1, by omega⟩
  have hlt : i < l.length := by omega
  have hw : wrap64 ((i : Int) + 1) = ((i + 1 : Nat) : Int) := by unfold wrap64; omega
  have hs := stepR_range t v l[i] hv
  simp only [berthingref10_Steps_At.l0]
  rw [if_pos (by omega), if_pos (by omega), rd_change i hlt, rholds_eq, hw, List.drop_eq_getElem_cons hlt, List.foldl_cons]
  simp only [Option.bind_some]
  have ih := fun v' hv' => at_l0 t first l hl d k v' (i + 1) (by omega) (by omega) (by omega) hv'
  by_cases h1 : holdsR l[i].f0.f0 l[i].f0.f1 t = true
  ·rw [if_pos h1]
   by_cases h2 : l[i].f1 = true
   ·rw [if_pos h2]
    have e : berthingref10_clamp.f l[i].f2 = some (lvT l[i].f2) := rfl
    have e2 : stepR t v l[i] = lvT l[i].f2 := by unfold stepR; rw [if_pos h1, if_pos h2]
    rw [e, e2]
    exact ih _ (lvT_range _)
   ·rw [if_neg h2]
    have e : berthingref10_clamp2.f l[i].f2 = some (byT l[i].f2) := rfl
    have e2 : stepR t v l[i] = lvT (v + byT l[i].f2) := by unfold stepR; rw [if_pos h1, if_neg h2]
    have hb := byT_range l[i].f2
    have e3 : wrap64 (v + byT l[i].f2) = v + byT l[i].f2 := by unfold wrap64; omega
    have e4 : berthingref10_clamp.f (v + byT l[i].f2) = some (lvT (v + byT l[i].f2)) := rfl
    rw [e, e2]
    simp only [Option.bind_some]
    rw [e3, e4]
    exact ih _ (lvT_range _)
  ·rw [if_neg h1]
   have e2 : stepR t v l[i] = v := by unfold stepR; rw [if_neg h1]
   rw [e2]
   exact ih _ hv
theorem refAt_eq (first : Int) (l : List S98) (t : Int) (hl : l.length < 4611686018427387904) (k : Nat) (hk : l.length + 1 < k) : berthingref10_Steps_At.f k first l t = some (refAt first l t) := by
 obtain ⟨k, rfl⟩ : ∃ m, k = m + 1 := ⟨k - 1, by omega⟩
 have e : berthingref10_clamp.f first = some (lvT first) := rfl
 have h := fun t' => at_l0 t' first l hl l.length k (lvT first) 0 (by omega) (by omega) (by omega) (lvT_range _)
 unfold berthingref10_Steps_At.f
 rw [rclamp_eq]
 simp only [Option.bind_some]
 unfold refAt atT
 split
 ·simp only [berthingref10_Steps_At.j0]
  rw [e]
  exact h _
 ·simp only [berthingref10_Steps_At.j0]
  rw [e]
  exact h _

/-! ### steps of a play -/
structure ActS where
 kind : Int
 a : Int
 b : Int
 n : Int
def kAct : Kd ActS := Kd.iso (Kd.pair (Kd.int .i64) (Kd.pair (Kd.int .i64) (Kd.pair (Kd.int .i64) (Kd.int .i64)))) (fun x : ActS => (x.kind, x.a, x.b, x.n))
def zAct : ActS := ⟨0, 0, 0, 0⟩
theorem kAct_open {w : World} {x : ActS} {cs : List Value} (h : kAct.K w x cs) : cs = [.int .i64 x.kind, .int .i64 x.a, .int .i64 x.b, .int .i64 x.n] := by
 obtain ⟨_, _, rfl, rfl, _, _, rfl, rfl, _, _, rfl, rfl, rfl⟩ := h
 exact rfl
theorem kAct_mk (w : World) (x : ActS) : kAct.K w x [.int .i64 x.kind, .int .i64 x.a, .int .i64 x.b, .int .i64 x.n] :=
 ⟨[.int .i64 x.kind], [.int .i64 x.a, .int .i64 x.b, .int .i64 x.n], rfl, rfl, [.int .i64 x.a], [.int .i64 x.b, .int .i64 x.n], rfl, rfl, [.int .i64 x.b], [.int .i64 x.n], rfl, rfl, rfl⟩
theorem act_at {w : World} {A : Option Addr} {n : Nat} {xs : List ActS} (h : Kd.C kAct w A n xs) (i : Nat) (hi : i < xs.length) (hn : n = xs.length) : ∃ ad, A = some ad ∧ w.cell? (ad.add (i * 4)) = some (.int .i64 xs[i].kind) ∧ w.cell? (ad.add (i * 4 + 1)) = some (.int .i64 xs[i].a) ∧ w.cell? (ad.add (i * 4 + 2)) = some (.int .i64 xs[i].b) ∧ w.cell? (ad.add (i * 4 + 3)) = some (.int .i64 xs[i].n) := by
 obtain ⟨ad, c, e, _, hK, hc0⟩ := Kd.C_get h (⟨0, 0, 0, 0⟩ : ActS) (i : Int) (by omega) (by omega)
 have hc : ∀ j u, c[j]? = some u → w.cell? (ad.add (i * 4 + j)) = some u := hc0
 have hx : xs.getD (i : Int).toNat (⟨0, 0, 0, 0⟩ : ActS) = xs[i] := by
  rw [Int.toNat_natCast, List.getD_eq_getElem?_getD, List.getElem?_eq_getElem hi, Option.getD_some]
 rw [hx] at hK
 obtain rfl := kAct_open hK
 exact ⟨ad, e, hc 0 _ rfl, hc 1 _ rfl, hc 2 _ rfl, hc 3 _ rfl⟩
/-- what one leads to -/
def actL (x : ActS) (l : List (Int × Int)) : List (Int × Int) :=
 if x.kind = 0 then turnL (fun v => v + byT x.n) l x.a x.b else if x.kind = 1 then turnL (fun v => x.n) l x.a x.b
 else if x.kind = 2 then turnL (fun v => atL l (if x.a ≥ 1099511627776 then 0 else x.a)) l 0 (if x.a ≥ 1099511627776 then 0 else x.a) else l
def actR (first : Int) (x : ActS) (r : List S98) : List S98 :=
 if x.kind = 0 then r ++ [⟨⟨x.a, x.b⟩, false, x.n⟩] else if x.kind = 1 then r ++ [⟨⟨x.a, x.b⟩, true, x.n⟩]
 else if x.kind = 2 then (if x.a ≥ 1099511627776 then r else r ++ [⟨⟨0, x.a⟩, true, refAt first r x.a⟩]) else r
def playL (first : Int) (xs : List ActS) : List (Int × Int) := xs.foldl (fun l x => actL x l) [(0, lvT first)]
def playR (first : Int) (xs : List ActS) : List S98 := xs.foldl (fun r x => actR first x r) []
theorem playL_snoc (first : Int) (xs : List ActS) (x : ActS) : playL first (xs ++ [x]) = actL x (playL first xs) := by unfold playL; rw [List.foldl_append]; rfl
theorem playR_snoc (first : Int) (xs : List ActS) (x : ActS) : playR first (xs ++ [x]) = actR first x (playR first xs) := by unfold playR; rw [List.foldl_append]; rfl
theorem Lev.act {l : List (Int × Int)} (h : Lev l) (x : ActS) : Lev (actL x l) := by
 unfold actL
 split
 ·exact h.turn _ _ _
 ·split
  ·exact h.turn _ _ _
  ·split
   ·exact h.turn _ _ _
   ·exact h
theorem actL_len {l : List (Int × Int)} (h : Lev l) (x : ActS) : (actL x l).length ≤ l.length + 2 := by
 unfold actL
 split
 ·exact turnL_len h _ _ _
 ·split
  ·exact turnL_len h _ _ _
  ·split
   ·exact turnL_len h _ _ _
   ·omega
theorem lev_flat (v : Int) : Lev [(0, lvT v)] := ⟨List.pairwise_singleton _ _, fun s hs => by obtain rfl := List.mem_singleton.1 hs; exact ⟨Int.le_refl _, by show (0 : Int) < 1099511627776; decide⟩, ⟨_, [], rfl⟩, fun s hs => by obtain rfl := List.mem_singleton.1 hs; exact lvT_range _⟩
theorem play_lev (first : Int) (xs : List ActS) : Lev (playL first xs) ∧ (playL first xs).length ≤ 2 * xs.length + 1 := by
 unfold playL
 suffices h : ∀ (xs : List ActS) (l : List (Int × Int)), Lev l → Lev (xs.foldl (fun l x => actL x l) l) ∧ (xs.foldl (fun l x => actL x l) l).length ≤ 2 * xs.length + l.length from h xs _ (lev_flat first)
 intro xs
 induction xs with
 | nil => intro l h; exact ⟨h, by simp⟩
 | cons x xs ih =>
  intro l h
  obtain ⟨h1, h2⟩ := ih (actL x l) (h.act x)
  have h3 := actL_len h x
  exact ⟨h1, by simp only [List.foldl_cons, List.length_cons]; omega⟩
theorem playR_len (first : Int) (xs : List ActS) : (playR first xs).length ≤ xs.length := by
 unfold playR
 suffices h : ∀ (xs : List ActS) (r : List S98), (xs.foldl (fun r x => actR first x r) r).length ≤ xs.length + r.length from h xs []
 intro xs
 induction xs with
 | nil => intro r; simp
 | cons x xs ih =>
  intro r
  have h1 := ih (actR first x r)
  have h2 : (actR first x r).length ≤ r.length + 1 := by unfold actR; (repeat' split) <;> simp
  simp only [List.foldl_cons, List.length_cons]; omega
end Go.Proofs.Ytlddccmgamlccaa.Us

set_option linter.unusedVariables false
set_option linter.unusedSimpArgs false
namespace Go.Proofs.Ytlddccmgamlccaa.Us
open Go Go.Proofs Go.RowKit Go.Lib Go.Proofs.YtlddccmgamlccaaW.PrintWords Go.Proofs.YtlddccmgamlccaaW.PrintLast Go.Proofs.YtlddccmgamlccaaW.PrintMore
open Go.Proofs.Ytlddccmgamlccaa.PFitRoom (S55 S98 k98 z98 rd_T98)

def playRg.T18 : Bool × List (List Nat × List Nat) := (true, [([], []), ([], []), ([0, 0], [0]), ([1, 2, 0, 1, 2], [1])])
def playRg.B18 : List Nat := [0, 0, 1, 7]
theorem playRg.tab18 : rtab .any (opsOf Try.f7 18) = playRg.T18 := by kernel_rfl
theorem playRg.bits18 : waitsOk playRg.T18.2 playRg.B18 = true := by kernel_rfl

theorem radd_eq (first : Int) (r : List S98) (a b n : Int) (h : r.length < 1099511627776) : berthingref10_Steps_Add.f first r a b n = some (first, r ++ [⟨⟨a, b⟩, false, n⟩]) := by
 unfold berthingref10_Steps_Add.f
 simp only [Option.bind_some, List.nil_append, List.length_nil, List.length_singleton]
 rw [if_pos (by omega), if_pos (by omega)]
theorem rset_eq (first : Int) (r : List S98) (a b n : Int) (h : r.length < 1099511627776) : berthingref10_Steps_Set.f first r a b n = some (first, r ++ [⟨⟨a, b⟩, true, n⟩]) := by
 unfold berthingref10_Steps_Set.f
 simp only [Option.bind_some, List.nil_append, List.length_nil, List.length_singleton]
 rw [if_pos (by omega), if_pos (by omega)]
def forgetR (first : Int) (r : List S98) (a : Int) : List S98 := if a ≥ 1099511627776 then r else r ++ [⟨⟨0, a⟩, true, refAt first r a⟩]
theorem rforget_eq (first : Int) (r : List S98) (a : Int) (h : r.length < 1099511627776) : berthingref10_Steps_Forget.f (r.length + 2) first r a = some (first, forgetR first r a) := by
 unfold berthingref10_Steps_Forget.f forgetR
 split
 ·rfl
 ·rw [refAt_eq first r a (by omega) _ (by omega)]
  simp only [Option.bind_some]
  rw [rset_eq _ _ _ _ _ h]
  rfl

/-- what stands between two steps of a play -/
structure PlayC (w0 : World) (p r7 r9 : Nat) : Prop where
 p0 : w0.heap.size ≤ p
 r70 : w0.heap.size ≤ r7
 r90 : w0.heap.size ≤ r9
 p7 : r7 ≠ p
 p9 : r9 ≠ p
 r79 : r7 ≠ r9
structure PlayB (w0 : World) (p r7 r9 : Nat) (first : Int) (l : List (Int × Int)) (q c : Nat) (v : Value) (wr : World) : Prop where
 st : StepsIs wr p q c l
 res : wr.heap[r7]? = some (.cells #[.int .i64 0, .slice none 0 0] 31 (0, 0))
 ref : wr.heap[r9]? = some (.cells #[.int .i64 first, v] 31 (0, 0))
 bel : Below w0.heap.size w0 wr
 q0 : w0.heap.size ≤ q
 q7 : r7 ≠ q
 q9 : r9 ≠ q
def PlayR (w0 : World) (p r7 r9 q : Nat) (v : Value) (r : List S98) (wr : World) : Prop := Kd.R k98 98 wr w0.heap.size (fun k => k ≠ p ∧ k ≠ q ∧ k ≠ r7 ∧ k ≠ r9) v r
variable {w0 wr w1 : World} {p r7 r9 q c : Nat} {first : Int} {l : List (Int × Int)} {r : List S98} {v : Value}
theorem PlayB.below (h : PlayB w0 p r7 r9 first l q c v wr) (hb : Below wr.heap.size wr w1) : PlayB w0 p r7 r9 first l q c v w1 :=
 ⟨h.st.below hb, blk_below h.res hb, blk_below h.ref hb, h.bel.trans (hb.mono h.bel.size), h.q0, h.q7, h.q9⟩
theorem PlayR.below (h : PlayR w0 p r7 r9 q v r wr) (hb : Below wr.heap.size wr w1) : PlayR w0 p r7 r9 q v r w1 := Kd.R_below h hb
theorem PlayB.turned (h : PlayB w0 p r7 r9 first l q c v wr) (hc : PlayC w0 p r7 r9) {q1 c1 : Nat} {l1 : List (Int × Int)} (T : Turned wr w1 p q q1) (S : StepsIs w1 p q1 c1 l1) : PlayB w0 p r7 r9 first l1 q1 c1 v w1 := by
 have hs := h.bel.size
 have h7 := blk_lt h.res
 have h9 := blk_lt h.ref
 have hq1 : q1 = q ∨ wr.heap.size ≤ q1 := T.row
 have h1 := h.q0
 have h2 := h.q7
 have h3 := h.q9
 have hp0 := hc.p0
 exact ⟨S, (T.block _ h7 hc.p7 h.q7).trans h.res, (T.block _ h9 hc.p9 h.q9).trans h.ref, ⟨T.os.trans h.bel.os, T.tape.trans h.bel.tape, T.output.trans h.bel.output, Nat.le_trans h.bel.size T.size, fun k hk => (T.block k (by omega) (by omega) (by omega)).trans (h.bel.block k hk)⟩, by omega, by omega, by omega⟩
theorem PlayR.turned (h : PlayR w0 p r7 r9 q v r wr) {q1 : Nat} (T : Turned wr w1 p q q1) : PlayR w0 p r7 r9 q1 v r w1 := by
 have hr := Kd.R_bound h
 have hq1 : q1 = q ∨ wr.heap.size ≤ q1 := T.row
 refine Kd.R_mono (Kd.R_step hr (fun k hk hlt => T.block k hlt hk.1.1 hk.1.2.1)) (fun k hk => ⟨hk.1.1, ?_, hk.1.2.2⟩)
 have := hk.2.2.1
 rcases hq1 with e | e
 ·rw [e]; exact hk.1.2.1
 ·omega
theorem PlayB.put (h : PlayB w0 p r7 r9 first l q c v wr) (hc : PlayC w0 p r7 r9) (v1 : Value) : PlayB w0 p r7 r9 first l q c v1 ((wr.setCell ⟨r9, 0, none⟩ (.int .i64 first)).setCell ⟨r9, 1, none⟩ v1) := by
 have o1 : ∀ k, k ≠ r9 → ((wr.setCell ⟨r9, 0, none⟩ (.int .i64 first)).setCell ⟨r9, 1, none⟩ v1).heap[k]? = wr.heap[k]? := fun k hk => (Below.heap_setCell _ _ _ _ hk).trans (Below.heap_setCell _ _ _ _ hk)
 have hp := hc.p9
 have hq := h.q9
 refine ⟨⟨(o1 p (Ne.symm hp)).trans h.st.ptr, ?_, h.st.ne, h.st.cap⟩, (o1 r7 hc.r79).trans h.res, blk_put (cs := #[.int .i64 first, v]) (blk_put h.ref 0 _ rfl) 1 _ rfl, ?_, h.q0, h.q7, h.q9⟩
 ·obtain ⟨sp, h1, h2⟩ := h.st.row
  exact ⟨sp, (o1 q (Ne.symm hq)).trans h1, h2⟩
 ·exact ⟨h.bel.os, h.bel.tape, h.bel.output, by simp [World.setCell]; exact h.bel.size, fun k hk => (o1 k (by have := hc.r90; omega)).trans (h.bel.block k hk)⟩
theorem PlayR.put (R : PlayR w0 p r7 r9 q v r wr) (u1 u2 : Value) : PlayR w0 p r7 r9 q v r ((wr.setCell ⟨r9, 0, none⟩ u1).setCell ⟨r9, 1, none⟩ u2) :=
 Kd.R_step R (fun k hk _ => (Below.heap_setCell _ _ _ _ hk.2.2.2).trans (Below.heap_setCell _ _ _ _ hk.2.2.2))
theorem PlayB.row_new {wx : World} (h : PlayB w0 p r7 r9 first l q c v wx) {v1 : Value} {r1 : List S98} (R : Kd.R k98 98 w1 wx.heap.size (fun _ => True) v1 r1) : PlayR w0 p r7 r9 q v1 r1 w1 := by
 have h1 := blk_lt h.st.ptr
 have h2 := blk_lt h.st.row.choose_spec.1
 have h3 := blk_lt h.res
 have h4 := blk_lt h.ref
 exact Kd.R_lower (Kd.R_mono (Kd.R_bound R) (fun k hk => by have := hk.2.1; exact ⟨by omega, by omega, by omega, by omega⟩)) h.bel.size
theorem PlayB.kept (h : PlayB w0 p r7 r9 first l q c v wr) (hk : Kept wr w1 (fun k => k ≠ p ∧ k ≠ q ∧ k ≠ r7 ∧ k ≠ r9)) (hB : Below w0.heap.size w0 w1) : PlayB w0 p r7 r9 first l q c v w1 := by
 have h1 := blk_lt h.st.ptr
 have h2 := blk_lt h.st.row.choose_spec.1
 have h3 := blk_lt h.res
 have h4 := blk_lt h.ref
 refine ⟨⟨(hk.2 p h1 (fun e => e.1 rfl)).trans h.st.ptr, ?_, h.st.ne, h.st.cap⟩, (hk.2 r7 h3 (fun e => e.2.2.1 rfl)).trans h.res, (hk.2 r9 h4 (fun e => e.2.2.2 rfl)).trans h.ref, hB, h.q0, h.q7, h.q9⟩
 obtain ⟨sp, e1, e2⟩ := h.st.row
 exact ⟨sp, (hk.2 q h2 (fun e => e.2.1 rfl)).trans e1, e2⟩
/-- Forget of the reference, between two steps -/
theorem rforget_calls (h : PlayB w0 p r7 r9 first l q c v wr) (hR : PlayR w0 p r7 r9 q v r wr) (a : Int) (hn : r.length < 1099511627776) :
  Calls Try.prog 34 #[.agg #[.int .i64 first, v], .int .i64 a] wr fun e w' => ∃ v1 : Value, e = .returned (.agg #[.int .i64 first, v1]) ∧ PlayR w0 p r7 r9 q v1 (forgetR first r a) w' ∧ PlayB w0 p r7 r9 first l q c v w' ∧ wr.heap.size ≤ w'.heap.size := by
 have h1 := blk_lt h.st.ptr
 have h2 := blk_lt h.st.row.choose_spec.1
 have h3 := blk_lt h.res
 have h4 := blk_lt h.ref
 refine (berthingref10_Steps_Forget.calls (r.length + 2) first _ v r a first (forgetR first r a) w0 wr h.bel hR (rforget_eq first r a hn)).mono ?_
 rintro e w' ⟨v1, rfl, R1, hB, hk⟩
 refine ⟨v1, rfl, Kd.R_mono R1 (fun k hk => ?_), h.kept hk hB, hk.1⟩
 rcases hk with hk | hk
 ·exact hk
 ·exact ⟨by omega, by omega, by omega, by omega⟩

set_option maxRecDepth 100000 in
set_option maxHeartbeats 16000000 in
theorem play_calls (first : Int) (A : Option Addr) (c m : Nat) (xs : List ActS) (w : World) (hr : Kd.C kAct w A xs.length xs) (hc : xs.length ≤ c) (hm : m ≤ 1000) :
  Calls Try.prog 7 #[.int .i64 first, .slice A xs.length c, .int .i64 (m : Int)] w fun e w' => ∃ p q c1 v, e = .returned (.tuple #[.pointer (some ⟨p, 0, none⟩), .agg #[.int .i64 first, v]]) ∧ StepsIs w' p q c1 (playL first (xs.take m)) ∧
   Kd.R k98 98 w' w.heap.size (fun k => k ≠ p ∧ k ≠ q) v (playR first (xs.take m)) ∧ w.heap.size ≤ p ∧ w.heap.size ≤ q ∧ Below w.heap.size w w' := by
 have HA := Aside0.mk hr
 have hr7 := blk_new w (.cells #[.int .i64 0, .slice none 0 0] 31 (0, 0))
 have hb7 : Below w.heap.size w (w.alloc (.cells #[.int .i64 0, .slice none 0 0] 31 (0, 0))) := (Below.refl _ w).alloc (Nat.le_refl _) _
 clear hr
 go_enter Try.func7, Try.ntmps7
 go_wp2_with (go_at_call 29; refine (flat_calls first _).mono ?_; rintro ev w1 ⟨p, q0, c0, rfl, S1, hp, hq, hb1⟩)
 rw [size_alloc] at hp hq
 have hcC : PlayC w p w.heap.size w1.heap.size := ⟨by omega, Nat.le_refl _, by have := hb1.size; rw [size_alloc] at this; omega, by omega, by have := blk_lt S1.ptr; omega, by have := hb1.size; rw [size_alloc] at this; omega⟩
 have HC := Aside0.mk hcC
 have hB1 := below_step hb7 hb1
 have hal := (Below.refl w1.heap.size w1).alloc (Nat.le_refl _) (.cells #[.int .i64 first, .slice none 0 0] 31 (0, 0))
 have HI0 := Aside0.mk (show PlayB w p w.heap.size w1.heap.size first [(0, lvT first)] q0 c0 (.slice none 0 0) (w1.alloc (.cells #[.int .i64 first, .slice none 0 0] 31 (0, 0))) from
  ⟨S1.below hal, blk_alloc (blk_below hr7 hb1) _, blk_new w1 _, below_step hB1 hal, by omega, by omega, by have := blk_lt S1.row.choose_spec.1; omega⟩)
 obtain ⟨r7, h7⟩ : ∃ r7, w.heap.size = r7 := ⟨_, rfl⟩
 obtain ⟨r9, h9⟩ : ∃ r9, w1.heap.size = r9 := ⟨_, rfl⟩
 have HC : Aside0 (PlayC w p r7 r9) := ⟨by rw [← h7, ← h9]; exact HC.out⟩
 have HI0 : Aside0 (PlayB w p r7 r9 first [(0, lvT first)] q0 c0 (.slice none 0 0) (w1.alloc (.cells #[.int .i64 first, .slice none 0 0] 31 (0, 0)))) := ⟨by rw [← h7, ← h9]; exact HI0.out⟩
 rw [h9]
 rw [h7]
 have H7 := Aside0.mk h7
 clear hr7 hb7 S1 hp hq hb1 hB1 hal hcC h7 h9
 go_loopw [10] (fun v10 wr => ∃ i : Nat, v10 = .int .i64 (i : Int) ∧ i ≤ xs.length ∧ i ≤ m ∧ ∃ q c1 v, PlayB w p r7 r9 first (playL first (xs.take i)) q c1 v wr ∧ PlayR w p r7 r9 q v (playR first (xs.take i)) wr)
  (fun v10 wr => xs.length - natV v10)
 case atStart => exact ⟨0, rfl, Nat.zero_le _, Nat.zero_le _, q0, c0, _, HI0.out, Kd.R_nil _ _ _ _ _⟩
 case round =>
  obtain ⟨i, rfl, hi, him, q, c1, v, hI, hR⟩ := hrel
  have hrl := playR_len first (xs.take i)
  have hll := play_lev first (xs.take i)
  rw [List.length_take] at hrl hll
  obtain ⟨r0, hr0⟩ : ∃ r0, playR first (xs.take i) = r0 := ⟨_, rfl⟩
  rw [hr0] at hrl hR
  have HRE := Aside0.mk hr0
  have hL := Aside0.mk hll.1
  have hLn := hll.2
  have HI := Aside0.mk hI
  have HR := Aside0.mk hR
  obtain ⟨Av, cv, rfl⟩ := Kd.R_slice hR
  clear hI hr0 hll
  by_cases hlt : i < xs.length ∧ i < m
  ·have e1 : decide ((i : Int) < (xs.length : Int)) = true := by simp; omega
   have e2 : decide ((i : Int) < (m : Int)) = true := by simp; omega
   have e1' : decide (i < xs.length) = true := by simp; omega
   have e2' : decide (i < m) = true := by simp; omega
   have htk : xs.take (i + 1) = xs.take i ++ [xs[i]] := List.take_succ_eq_append_getElem hlt.1
   have HTK := Aside0.mk htk
   obtain ⟨ad, rfl, a0, a1, a2, a3⟩ := act_at HA.out i hlt.1 rfl
   obtain ⟨⟨kd, a, b, n⟩, hx⟩ : ∃ x, xs[i] = x := ⟨_, rfl⟩
   rw [hx] at a0 a1 a2 a3
   have HX := Aside0.mk hx
   dsimp only at a0 a1 a2 a3
   replace a0 := (HI.out.bel.cell (World.block_lt_of_cell? w _ a0)).trans a0
   replace a1 := (HI.out.bel.cell (World.block_lt_of_cell? w _ a1)).trans a1
   replace a2 := (HI.out.bel.cell (World.block_lt_of_cell? w _ a2)).trans a2
   replace a3 := (HI.out.bel.cell (World.block_lt_of_cell? w _ a3)).trans a3
   rw [add_field _ _ 1 (by omega)] at a1
   rw [add_field _ _ 2 (by omega)] at a2
   rw [add_field _ _ 3 (by omega)] at a3
   have hw1 : IntKind.i64.wrap ((i : Int) + 1) = (i : Int) + 1 := by rw [IntKind.wrap_i64]; omega
   clear htk hx hR
   by_cases hkd : kd = 0
   ·have htk := Aside0.mk HTK.out
    have hkL : actL xs[i] (playL first (xs.take i)) = turnL (fun v => v + byT n) (playL first (xs.take i)) a b := by unfold actL; rw [HX.out]; dsimp only; rw [if_pos hkd]
    have hkR : actR first xs[i] r0 = r0 ++ [⟨⟨a, b⟩, false, n⟩] := by unfold actR; rw [HX.out]; dsimp only; rw [if_pos hkd]
    have HKL := Aside0.mk hkL
    have HKR := Aside0.mk hkR
    have ek0 : (kd == 0) = true := by simp [hkd]
    clear hkL hkR hkd
    go_wp2_with (first
     | (go_at_call 20; refine (berthinglaw01_Own.calls a b a b _ rfl).mono ?_; rintro ev w1 ⟨rfl, hb1⟩; have hbA : Below wr.heap.size wr (wr.alloc (.cells #[.int .i64 kd, .int .i64 a, .int .i64 b, .int .i64 n] 67 (0, 0))) := (Below.refl _ wr).alloc (Nat.le_refl _) _; have nA := blk_below (blk_new wr (.cells #[.int .i64 kd, .int .i64 a, .int .i64 b, .int .i64 n] 67 (0, 0))) hb1; have hbB := below_step hbA hb1; have hbC := hbB.alloc hbB.size (.cells #[.int .i64 a, .int .i64 b] 55 (0, 0)); have nA2 := blk_alloc nA (.cells #[.int .i64 a, .int .i64 b] 55 (0, 0)); have nB2 := blk_new w1 (.cells #[.int .i64 a, .int .i64 b] 55 (0, 0)); have HI2 := Aside0.mk (HI.out.below hbC); have HR2 := Aside0.mk (HR.out.below hbC); have ga0 := (blk_cell nA2 0).trans rfl; have ga1 := (blk_cell nA2 1).trans rfl; have ga2 := (blk_cell nA2 2).trans rfl; have ga3 := (blk_cell nA2 3).trans rfl; have hsz1 : wr.heap.size < w1.heap.size := blk_lt nA; have HA2 := Aside0.mk nA2; have HB2 := Aside0.mk nB2; clear nA nA2 nB2 hb1 hbA hbB hbC)
     | (go_at_call 15; refine (add_calls p q c1 _ a b n _ HI2.out.st hL.out (by omega)).mono ?_; rintro ev w3 ⟨rfl, q1, c2, S3, T3⟩; have hpl := blk_lt HI.out.st.ptr; have hql := blk_lt HI.out.st.row.choose_spec.1; have nA3 := (T3.block _ (blk_lt HA2.out) (by omega) (by omega)).trans HA2.out; have nB3 := (T3.block _ (blk_lt HB2.out) (by omega) (by omega)).trans HB2.out; have HI3 := Aside0.mk (HI2.out.turned HC.out T3 S3); have HR3 := Aside0.mk (HR2.out.turned T3); have gb1 := (blk_cell nA3 1).trans rfl; have gb3 := (blk_cell nA3 3).trans rfl; have gc0 := (blk_cell nB3 0).trans rfl; have gc1 := (blk_cell nB3 1).trans rfl; have gr0 := (blk_cell HI3.out.ref 0).trans rfl; have gr1 := (blk_cell HI3.out.ref 1).trans rfl; obtain ⟨_, hRc, hRC⟩ := Kd.R_reads' HR3.out; clear S3 T3 nA3 nB3)
     | (go_at_call 30; refine (berthingref10_Steps_Add.calls first Av cv r0 a b n first (r0 ++ [⟨⟨a, b⟩, false, n⟩]) _ hRC hRc (radd_eq first r0 a b n (by omega))).mono ?_; rintro ev w4 ⟨v4, rfl, R4, hb4⟩; obtain ⟨A4, c4, rfl⟩ := Kd.R_slice R4; have hl4 : (r0 ++ [(⟨⟨a, b⟩, false, n⟩ : S98)]).length = r0.length + 1 := (by simp); rw [hl4] at R4; clear hl4; have HR4 := Aside0.mk (HI3.out.row_new R4); have HI4 := Aside0.mk (HI3.out.below hb4); clear R4 hb4; have gf0 := blk_frozen HI4.out.ref 0; have gf1 := blk_frozen HI4.out.ref 1; have gs0 := (blk_cell HI4.out.ref 0).trans rfl; have gs1 := (blk_cell HI4.out.ref 1).trans rfl))
    go_roundw
    case rel =>
     refine ⟨i + 1, by go_num, by omega, by omega, q1, c2, .slice A4 (r0.length + 1) c4, ?_, ?_⟩
     ·rw [htk.out, playL_snoc, HKL.out]; exact HI4.out.put HC.out _
     ·rw [htk.out, playR_snoc, HRE.out, HKR.out]; exact HR4.out.put _ _
    case measure => simp [natV]; omega
   by_cases hkd1 : kd = 1
   ·have htk := Aside0.mk HTK.out
    have hkd0 := hkd
    have hkd := hkd1
    clear hkd1
    have hkL : actL xs[i] (playL first (xs.take i)) = turnL (fun v => n) (playL first (xs.take i)) a b := by unfold actL; rw [HX.out]; dsimp only; rw [if_neg hkd0, if_pos hkd]
    have hkR : actR first xs[i] r0 = r0 ++ [⟨⟨a, b⟩, true, n⟩] := by unfold actR; rw [HX.out]; dsimp only; rw [if_neg hkd0, if_pos hkd]
    have HKL := Aside0.mk hkL
    have HKR := Aside0.mk hkR
    have ek0 : (kd == 0) = false := by simp [hkd0]
    have ek1 : (kd == 1) = true := by simp [hkd]
    clear hkL hkR hkd hkd0
    go_wp2_with (first
     | (go_at_call 20; refine (berthinglaw01_Own.calls a b a b _ rfl).mono ?_; rintro ev w1 ⟨rfl, hb1⟩; have hbA : Below wr.heap.size wr (wr.alloc (.cells #[.int .i64 kd, .int .i64 a, .int .i64 b, .int .i64 n] 67 (0, 0))) := (Below.refl _ wr).alloc (Nat.le_refl _) _; have nA := blk_below (blk_new wr (.cells #[.int .i64 kd, .int .i64 a, .int .i64 b, .int .i64 n] 67 (0, 0))) hb1; have hbB := below_step hbA hb1; have hbC := hbB.alloc hbB.size (.cells #[.int .i64 a, .int .i64 b] 55 (0, 0)); have nA2 := blk_alloc nA (.cells #[.int .i64 a, .int .i64 b] 55 (0, 0)); have nB2 := blk_new w1 (.cells #[.int .i64 a, .int .i64 b] 55 (0, 0)); have HI2 := Aside0.mk (HI.out.below hbC); have HR2 := Aside0.mk (HR.out.below hbC); have ga0 := (blk_cell nA2 0).trans rfl; have ga1 := (blk_cell nA2 1).trans rfl; have ga2 := (blk_cell nA2 2).trans rfl; have ga3 := (blk_cell nA2 3).trans rfl; have hsz1 : wr.heap.size < w1.heap.size := blk_lt nA; have HA2 := Aside0.mk nA2; have HB2 := Aside0.mk nB2; clear nA nA2 nB2 hb1 hbA hbB hbC)
     | (go_at_call 31; refine (set_calls p q c1 _ a b n _ HI2.out.st hL.out (by omega)).mono ?_; rintro ev w3 ⟨rfl, q1, c2, S3, T3⟩; have hpl := blk_lt HI.out.st.ptr; have hql := blk_lt HI.out.st.row.choose_spec.1; have nA3 := (T3.block _ (blk_lt HA2.out) (by omega) (by omega)).trans HA2.out; have nB3 := (T3.block _ (blk_lt HB2.out) (by omega) (by omega)).trans HB2.out; have HI3 := Aside0.mk (HI2.out.turned HC.out T3 S3); have HR3 := Aside0.mk (HR2.out.turned T3); have gb1 := (blk_cell nA3 1).trans rfl; have gb3 := (blk_cell nA3 3).trans rfl; have gc0 := (blk_cell nB3 0).trans rfl; have gc1 := (blk_cell nB3 1).trans rfl; have gr0 := (blk_cell HI3.out.ref 0).trans rfl; have gr1 := (blk_cell HI3.out.ref 1).trans rfl; obtain ⟨_, hRc, hRC⟩ := Kd.R_reads' HR3.out; clear S3 T3 nA3 nB3)
     | (go_at_call 32; refine (berthingref10_Steps_Set.calls first Av cv r0 a b n first (r0 ++ [⟨⟨a, b⟩, true, n⟩]) _ hRC hRc (rset_eq first r0 a b n (by omega))).mono ?_; rintro ev w4 ⟨v4, rfl, R4, hb4⟩; obtain ⟨A4, c4, rfl⟩ := Kd.R_slice R4; have hl4 : (r0 ++ [(⟨⟨a, b⟩, true, n⟩ : S98)]).length = r0.length + 1 := (by simp); rw [hl4] at R4; clear hl4; have HR4 := Aside0.mk (HI3.out.row_new R4); have HI4 := Aside0.mk (HI3.out.below hb4); clear R4 hb4; have gf0 := blk_frozen HI4.out.ref 0; have gf1 := blk_frozen HI4.out.ref 1; have gs0 := (blk_cell HI4.out.ref 0).trans rfl; have gs1 := (blk_cell HI4.out.ref 1).trans rfl))
    go_roundw
    case rel =>
     refine ⟨i + 1, by go_num, by omega, by omega, q1, c2, .slice A4 (r0.length + 1) c4, ?_, ?_⟩
     ·rw [htk.out, playL_snoc, HKL.out]; exact HI4.out.put HC.out _
     ·rw [htk.out, playR_snoc, HRE.out, HKR.out]; exact HR4.out.put _ _
    case measure => simp [natV]; omega
   by_cases hkd2 : kd = 2
   ·have htk := Aside0.mk HTK.out
    have hkd0 := hkd
    have hkd := hkd2
    clear hkd2
    have hkL : actL xs[i] (playL first (xs.take i)) = turnL (fun v => atL (playL first (xs.take i)) (if a ≥ 1099511627776 then 0 else a)) (playL first (xs.take i)) 0 (if a ≥ 1099511627776 then 0 else a) := by unfold actL; rw [HX.out]; dsimp only; rw [if_neg hkd0, if_neg hkd1, if_pos hkd]
    have hkR : actR first xs[i] r0 = forgetR first r0 a := by unfold actR; rw [HX.out]; dsimp only; rw [if_neg hkd0, if_neg hkd1, if_pos hkd]; rfl
    have HKL := Aside0.mk hkL
    have HKR := Aside0.mk hkR
    have ek0 : (kd == 0) = false := by simp [hkd0]
    have ek1 : (kd == 1) = false := by simp [hkd1]
    have ek2 : (kd == 2) = true := by simp [hkd]
    clear hkL hkR hkd hkd0 hkd1
    go_wp2_with (first
     | (go_at_call 20; refine (berthinglaw01_Own.calls a b a b _ rfl).mono ?_; rintro ev w1 ⟨rfl, hb1⟩; have hbA : Below wr.heap.size wr (wr.alloc (.cells #[.int .i64 kd, .int .i64 a, .int .i64 b, .int .i64 n] 67 (0, 0))) := (Below.refl _ wr).alloc (Nat.le_refl _) _; have nA := blk_below (blk_new wr (.cells #[.int .i64 kd, .int .i64 a, .int .i64 b, .int .i64 n] 67 (0, 0))) hb1; have hbB := below_step hbA hb1; have hbC := hbB.alloc hbB.size (.cells #[.int .i64 a, .int .i64 b] 55 (0, 0)); have nA2 := blk_alloc nA (.cells #[.int .i64 a, .int .i64 b] 55 (0, 0)); have nB2 := blk_new w1 (.cells #[.int .i64 a, .int .i64 b] 55 (0, 0)); have HI2 := Aside0.mk (HI.out.below hbC); have HR2 := Aside0.mk (HR.out.below hbC); have ga0 := (blk_cell nA2 0).trans rfl; have ga1 := (blk_cell nA2 1).trans rfl; have ga2 := (blk_cell nA2 2).trans rfl; have ga3 := (blk_cell nA2 3).trans rfl; have hsz1 : wr.heap.size < w1.heap.size := blk_lt nA; have HA2 := Aside0.mk nA2; have HB2 := Aside0.mk nB2; clear nA nA2 nB2 hb1 hbA hbB hbC)
     | (go_at_call 33; refine (forget_calls p q c1 _ a (if a ≥ 1099511627776 then 0 else a) _ HI2.out.st hL.out (by omega) rfl).mono ?_; rintro ev w3 ⟨rfl, q1, c2, S3, T3⟩; have hpl := blk_lt HI.out.st.ptr; have hql := blk_lt HI.out.st.row.choose_spec.1; have nA3 := (T3.block _ (blk_lt HA2.out) (by omega) (by omega)).trans HA2.out; have nB3 := (T3.block _ (blk_lt HB2.out) (by omega) (by omega)).trans HB2.out; have HI3 := Aside0.mk (HI2.out.turned HC.out T3 S3); have HR3 := Aside0.mk (HR2.out.turned T3); have gb1 := (blk_cell nA3 1).trans rfl; have gb3 := (blk_cell nA3 3).trans rfl; have gc0 := (blk_cell nB3 0).trans rfl; have gc1 := (blk_cell nB3 1).trans rfl; have gr0 := (blk_cell HI3.out.ref 0).trans rfl; have gr1 := (blk_cell HI3.out.ref 1).trans rfl; obtain ⟨_, hRc, hRC⟩ := Kd.R_reads' HR3.out; clear S3 T3 nA3 nB3)
     | (go_at_call 34; refine (rforget_calls HI3.out HR3.out a (by omega)).mono ?_; rintro ev w4 ⟨v4, rfl, R4, hB4, hs4⟩; obtain ⟨A4, c4, rfl⟩ := Kd.R_slice R4; have HR4 := Aside0.mk R4; have HI4 := Aside0.mk hB4; clear R4 hB4 hs4; have gf0 := blk_frozen HI4.out.ref 0; have gf1 := blk_frozen HI4.out.ref 1; have gs0 := (blk_cell HI4.out.ref 0).trans rfl; have gs1 := (blk_cell HI4.out.ref 1).trans rfl))
    go_roundw
    case rel =>
     refine ⟨i + 1, by go_num, by omega, by omega, q1, c2, .slice A4 (forgetR first r0 a).length c4, ?_, ?_⟩
     ·rw [htk.out, playL_snoc, HKL.out]; exact HI4.out.put HC.out _
     ·rw [htk.out, playR_snoc, HRE.out, HKR.out]; exact HR4.out.put _ _
    case measure => simp [natV]; omega
   have hkL : actL xs[i] (playL first (xs.take i)) = playL first (xs.take i) := by unfold actL; rw [HX.out]; dsimp only; rw [if_neg hkd, if_neg hkd1, if_neg hkd2]
   have hkR : actR first xs[i] r0 = r0 := by unfold actR; rw [HX.out]; dsimp only; rw [if_neg hkd, if_neg hkd1, if_neg hkd2]
   have HKL := Aside0.mk hkL
   have HKR := Aside0.mk hkR
   have ek0 : (kd == 0) = false := by simp [hkd]
   have ek1 : (kd == 1) = false := by simp [hkd1]
   have ek2 : (kd == 2) = false := by simp [hkd2]
   clear hkL hkR hkd hkd1 hkd2
   go_wp2_with (first
    | (go_at_call 20; refine (berthinglaw01_Own.calls a b a b _ rfl).mono ?_; rintro ev w1 ⟨rfl, hb1⟩; have hbA : Below wr.heap.size wr (wr.alloc (.cells #[.int .i64 kd, .int .i64 a, .int .i64 b, .int .i64 n] 67 (0, 0))) := (Below.refl _ wr).alloc (Nat.le_refl _) _; have nA := blk_below (blk_new wr (.cells #[.int .i64 kd, .int .i64 a, .int .i64 b, .int .i64 n] 67 (0, 0))) hb1; have hbB := below_step hbA hb1; have hbC := hbB.alloc hbB.size (.cells #[.int .i64 a, .int .i64 b] 55 (0, 0)); have nA2 := blk_alloc nA (.cells #[.int .i64 a, .int .i64 b] 55 (0, 0)); have ga0 := (blk_cell nA2 0).trans rfl; clear nA nA2 hb1 hbA hbB))
   go_roundw
   case rel =>
    refine ⟨i + 1, by go_num, by omega, by omega, q, c1, .slice Av r0.length cv, ?_, ?_⟩
    ·rw [HTK.out, playL_snoc, HKL.out]; exact HI.out.below hbC
    ·rw [HTK.out, playR_snoc, HRE.out, HKR.out]; exact HR.out.below hbC
   case measure => simp [natV]; omega
  ·have hte : xs.take i = xs.take m := by
    rcases Nat.lt_or_ge i xs.length with h1 | h1
    ·rw [show i = m by omega]
    ·rw [List.take_of_length_le h1, List.take_of_length_le (by omega)]
   have HTE := Aside0.mk hte
   have g0 : wr.cell? ⟨r9, 0, none⟩ = some (.int .i64 first) := (blk_cell HI.out.ref 0).trans rfl
   have g1 : wr.cell? ⟨r9, 1, none⟩ = some (.slice Av r0.length cv) := (blk_cell HI.out.ref 1).trans rfl
   have f0 : wr.frozen? ⟨r7, 0, none⟩ = false := blk_frozen HI.out.res 0
   have f1 : wr.frozen? ⟨r7, 1, none⟩ = false := blk_frozen HI.out.res 1
   have k0 : wr.cell? ⟨r7, 0, none⟩ = some (.int .i64 0) := (blk_cell HI.out.res 0).trans rfl
   have k1 : wr.cell? ⟨r7, 1, none⟩ = some (.slice none 0 0) := (blk_cell HI.out.res 1).trans rfl
   clear hte
   have e12 : (decide ((i : Int) < (xs.length : Int)) = true ∧ decide (i < xs.length) = true ∧ decide (i < m) = false) ∨ (decide ((i : Int) < (xs.length : Int)) = false ∧ decide (i < xs.length) = false) := by
    rcases Nat.lt_or_ge i xs.length with h1 | h1
    ·left; refine ⟨?_, ?_, ?_⟩ <;> simp <;> omega
    ·right; refine ⟨?_, ?_⟩ <;> simp <;> omega
   rcases e12 with ⟨e1, e1', e2⟩ | ⟨e1, e1'⟩
   ·skip
    go_wp2
    refine wp_calm ?_
    refine start_ (n := 4) (S := fun w' => w'.cell? ⟨r9, 0, none⟩ = some (.int .i64 first) ∧ w'.cell? ⟨r9, 1, none⟩ = some (.slice Av r0.length cv) ∧ w'.frozen? ⟨r7, 0, none⟩ = false ∧ w'.frozen? ⟨r7, 1, none⟩ = false ∧ w'.cell? ⟨r7, 0, none⟩ = some (.int .i64 0) ∧ w'.cell? ⟨r7, 1, none⟩ = some (.slice none 0 0)) (ds := [3]) #[false, false, false, false] (by kernel_rfl) rfl rfl ⟨g0, g1, f0, f1, k0, k1⟩ (fun hHeld => ?_); refine with_tabW playRg.tab18 playRg.bits18 (fun HT_ HW_ => ?_)
    refine pure_ (i := 0) (N := some 75) (v := ?_) (a' := ?_) #[true, false, false, false] rfl rfl (any_of HT_.out (by kernel_rfl)) (fun _ _ _ h => h) (Or.inl ⟨by rfl, ?_⟩) ?_ ?_
    rotate_left
    ·intro w'
     go_simp
     with_reducible rfl
    rotate_left
    ·simp only [Act.put, List.setIfInBounds_toArray, List.set_cons_zero, List.set_cons_succ, i64_w, i32_w]
     rfl
    refine pure_ (i := 2) (N := some 6) (v := ?_) (a' := ?_) #[true, false, true, false] rfl rfl (any_of HT_.out (by kernel_rfl)) (fun _ _ _ h => h) (Or.inl ⟨by rfl, ?_⟩) ?_ ?_
    rotate_left
    ·intro w'
     go_simp
     with_reducible rfl
    rotate_left
    ·simp only [Act.put, List.setIfInBounds_toArray, List.set_cons_zero, List.set_cons_succ, i64_w, i32_w]
     rfl
    refine take_ (i := 1) (N := some 76) (v := ?_) (a' := ?_) #[true, true, true, false] rfl rfl (take_ofW HT_.out HW_.out (by kernel_rfl)) (fun _ _ _ h => h) (Or.inl ⟨by rfl, ?_⟩) hHeld ?_ ?_
    rotate_left
    ·rintro w' ⟨s0, s1, s2, s3, s4, s5⟩
     go_simp
     with_reducible rfl
    rotate_left
    ·simp only [Act.put, List.setIfInBounds_toArray, List.set_cons_zero, List.set_cons_succ, i64_w, i32_w]
     rfl
    refine last_ (i := 3) (N := none) #[true, true, true, true] rfl rfl (one_of HT_.out (by kernel_rfl)) (by decide) (fun K hK => ?_)
    refine skip_ (w1 := ?_) (by rfl) rfl ?_ ?_
    rotate_left
    ·go_simp
     rfl
    refine hK.out _ _ ?_
    clear hK K
    refine done_ (done_of HT_.out (by kernel_rfl)) ?_
    go_wp2
    refine bodyPost_ret (results_tc rfl _ _ r7 31 #[.int .i64 first, .slice Av r0.length cv] (0, 0) _ rfl (show ((wr.setCell ⟨r7, 0, none⟩ (.int .i64 first)).setCell ⟨r7, 1, none⟩ (.slice Av r0.length cv)).drew.heap[r7]? = _ from blk_put (cs := #[.int .i64 first, .slice none 0 0]) (blk_put HI.out.res 0 _ rfl) 1 _ rfl) Try.underlying31 rfl (by kernel_rfl)) rfl ?_
    have hI := HI.out
    have hC := HC.out
    have o1 : ∀ k, k ≠ r7 → ((wr.setCell ⟨r7, 0, none⟩ (.int .i64 first)).setCell ⟨r7, 1, none⟩ (.slice Av r0.length cv)).drew.heap[k]? = wr.heap[k]? := fun k hk => (Below.heap_setCell _ _ _ _ hk).trans (Below.heap_setCell _ _ _ _ hk)
    refine ⟨p, q, c1, _, rfl, ?_, ?_, hC.p0, hI.q0, ?_⟩
    ·rw [← HTE.out]
     obtain ⟨sp, h1, h2⟩ := hI.st.row
     exact ⟨(o1 p (Ne.symm hC.p7)).trans hI.st.ptr, ⟨sp, (o1 q (Ne.symm hI.q7)).trans h1, h2⟩, hI.st.ne, hI.st.cap⟩
    ·rw [← HTE.out, HRE.out]
     exact Kd.R_mono (Kd.R_step HR.out (fun k hk _ => o1 k hk.2.2.1)) (fun k hk => ⟨hk.1, hk.2.1⟩)
    ·exact ⟨hI.bel.os, hI.bel.tape, hI.bel.output, by show w.heap.size ≤ (((wr.setCell ⟨r7, 0, none⟩ (.int .i64 first)).setCell ⟨r7, 1, none⟩ (.slice Av r0.length cv))).heap.size; simp [World.setCell]; exact hI.bel.size, fun k hk => (o1 k (by have := hC.r70; omega)).trans (hI.bel.block k hk)⟩
   ·skip
    go_wp2
    refine wp_calm ?_
    refine start_ (n := 4) (S := fun w' => w'.cell? ⟨r9, 0, none⟩ = some (.int .i64 first) ∧ w'.cell? ⟨r9, 1, none⟩ = some (.slice Av r0.length cv) ∧ w'.frozen? ⟨r7, 0, none⟩ = false ∧ w'.frozen? ⟨r7, 1, none⟩ = false ∧ w'.cell? ⟨r7, 0, none⟩ = some (.int .i64 0) ∧ w'.cell? ⟨r7, 1, none⟩ = some (.slice none 0 0)) (ds := [3]) #[false, false, false, false] (by kernel_rfl) rfl rfl ⟨g0, g1, f0, f1, k0, k1⟩ (fun hHeld => ?_); refine with_tabW playRg.tab18 playRg.bits18 (fun HT_ HW_ => ?_)
    refine pure_ (i := 0) (N := some 75) (v := ?_) (a' := ?_) #[true, false, false, false] rfl rfl (any_of HT_.out (by kernel_rfl)) (fun _ _ _ h => h) (Or.inl ⟨by rfl, ?_⟩) ?_ ?_
    rotate_left
    ·intro w'
     go_simp
     with_reducible rfl
    rotate_left
    ·simp only [Act.put, List.setIfInBounds_toArray, List.set_cons_zero, List.set_cons_succ, i64_w, i32_w]
     rfl
    refine pure_ (i := 2) (N := some 6) (v := ?_) (a' := ?_) #[true, false, true, false] rfl rfl (any_of HT_.out (by kernel_rfl)) (fun _ _ _ h => h) (Or.inl ⟨by rfl, ?_⟩) ?_ ?_
    rotate_left
    ·intro w'
     go_simp
     with_reducible rfl
    rotate_left
    ·simp only [Act.put, List.setIfInBounds_toArray, List.set_cons_zero, List.set_cons_succ, i64_w, i32_w]
     rfl
    refine take_ (i := 1) (N := some 76) (v := ?_) (a' := ?_) #[true, true, true, false] rfl rfl (take_ofW HT_.out HW_.out (by kernel_rfl)) (fun _ _ _ h => h) (Or.inl ⟨by rfl, ?_⟩) hHeld ?_ ?_
    rotate_left
    ·rintro w' ⟨s0, s1, s2, s3, s4, s5⟩
     go_simp
     with_reducible rfl
    rotate_left
    ·simp only [Act.put, List.setIfInBounds_toArray, List.set_cons_zero, List.set_cons_succ, i64_w, i32_w]
     rfl
    refine last_ (i := 3) (N := none) #[true, true, true, true] rfl rfl (one_of HT_.out (by kernel_rfl)) (by decide) (fun K hK => ?_)
    refine skip_ (w1 := ?_) (by rfl) rfl ?_ ?_
    rotate_left
    ·go_simp
     rfl
    refine hK.out _ _ ?_
    clear hK K
    refine done_ (done_of HT_.out (by kernel_rfl)) ?_
    go_wp2
    refine bodyPost_ret (results_tc rfl _ _ r7 31 #[.int .i64 first, .slice Av r0.length cv] (0, 0) _ rfl (show ((wr.setCell ⟨r7, 0, none⟩ (.int .i64 first)).setCell ⟨r7, 1, none⟩ (.slice Av r0.length cv)).drew.heap[r7]? = _ from blk_put (cs := #[.int .i64 first, .slice none 0 0]) (blk_put HI.out.res 0 _ rfl) 1 _ rfl) Try.underlying31 rfl (by kernel_rfl)) rfl ?_
    have hI := HI.out
    have hC := HC.out
    have o1 : ∀ k, k ≠ r7 → ((wr.setCell ⟨r7, 0, none⟩ (.int .i64 first)).setCell ⟨r7, 1, none⟩ (.slice Av r0.length cv)).drew.heap[k]? = wr.heap[k]? := fun k hk => (Below.heap_setCell _ _ _ _ hk).trans (Below.heap_setCell _ _ _ _ hk)
    refine ⟨p, q, c1, _, rfl, ?_, ?_, hC.p0, hI.q0, ?_⟩
    ·rw [← HTE.out]
     obtain ⟨sp, h1, h2⟩ := hI.st.row
     exact ⟨(o1 p (Ne.symm hC.p7)).trans hI.st.ptr, ⟨sp, (o1 q (Ne.symm hI.q7)).trans h1, h2⟩, hI.st.ne, hI.st.cap⟩
    ·rw [← HTE.out, HRE.out]
     exact Kd.R_mono (Kd.R_step HR.out (fun k hk _ => o1 k hk.2.2.1)) (fun k hk => ⟨hk.1, hk.2.1⟩)
    ·exact ⟨hI.bel.os, hI.bel.tape, hI.bel.output, by show w.heap.size ≤ (((wr.setCell ⟨r7, 0, none⟩ (.int .i64 first)).setCell ⟨r7, 1, none⟩ (.slice Av r0.length cv))).heap.size; simp [World.setCell]; exact hI.bel.size, fun k hk => (o1 k (by have := hC.r70; omega)).trans (hI.bel.block k hk)⟩
end Go.Proofs.Ytlddccmgamlccaa.Us
