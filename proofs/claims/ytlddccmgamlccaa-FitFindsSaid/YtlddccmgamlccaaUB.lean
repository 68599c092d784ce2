/- A part of the proofs over usage and fit (UB): contracts of the program's functions and plain laws of levels. Conditions: those that each theorem states. -/
import Derived.Test.YtlddccmgamlccaaUA
import Derived.Test.YtlddccmgamlccaaUP
import Derived.Lib.SliceRun
set_option linter.unusedVariables false
set_option linter.unusedSimpArgs false
namespace Go.Proofs.Ytlddccmgamlccaa.Us
open Go Go.Proofs Go.RowKit Go.Lib Go.Proofs.YtlddccmgamlccaaW.PrintWords Go.Proofs.YtlddccmgamlccaaW.PrintLast Go.Proofs.YtlddccmgamlccaaW.PrintMore

/-- what a made Steps holds: from 0 on, times rise, none is never, levels are within the bounds -/
structure Lev (l : List (Int × Int)) : Prop where
 rise : Rise l
 top : ∀ s ∈ l, 0 ≤ s.1 ∧ s.1 < 1099511627776
 head : ∃ y r, l = (0, y) :: r
 lvl : ∀ s ∈ l, -1000000 ≤ s.2 ∧ s.2 ≤ 1000000
theorem Lev.tame {l : List (Int × Int)} (h : Lev l) : Tame l := fun s hs => by have := h.top s hs; omega
theorem Lev.ne {l : List (Int × Int)} (h : Lev l) : l ≠ [] := by obtain ⟨y, r, e⟩ := h.head; rw [e]; exact List.cons_ne_nil _ _
theorem rise_ge {l : List (Int × Int)} (h : Rise l) (h0 : ∀ s ∈ l, 0 ≤ s.1) : ∀ (k : Nat) (hk : k < l.length), (k : Int) ≤ l[k].1
 | 0, hk => h0 _ (List.getElem_mem hk)
 | k + 1, hk => by
  have h1 := rise_ge h h0 k (by omega)
  have h2 := rise_at h k (k + 1) (by omega) hk (by omega)
  omega
theorem rise_len {l : List (Int × Int)} (h : Rise l) (h0 : ∀ s ∈ l, 0 ≤ s.1 ∧ s.1 < 1099511627776) : l.length ≤ 1099511627776 := by
 rcases Nat.eq_zero_or_pos l.length with e | e
 ·omega
 ·have h1 := rise_ge h (fun s hs => (h0 s hs).1) (l.length - 1) (by omega)
  have h2 := (h0 _ (List.getElem_mem (show l.length - 1 < l.length by omega))).2
  omega
theorem Lev.len {l : List (Int × Int)} (h : Lev l) : l.length ≤ 1099511627776 := rise_len h.rise h.top

theorem ins_rise {l : List (Int × Int)} (h : Rise l) (i : Nat) (t y : Int) (h1 : ∀ (k : Nat) (hk : k < l.length), k < i → l[k].1 < t) (h2 : ∀ (k : Nat) (hk : k < l.length), i ≤ k → t < l[k].1) : Rise (l.take i ++ (t, y) :: l.drop i) := by
 unfold Rise
 rw [List.pairwise_append, List.pairwise_cons]
 have ht : ∀ a ∈ l.take i, a.1 < t := fun a ha => by
  obtain ⟨k, hk, rfl⟩ := List.getElem_of_mem ha
  rw [List.getElem_take]
  rw [List.length_take] at hk
  exact h1 k (by omega) (by omega)
 have hd : ∀ a ∈ l.drop i, t < a.1 := fun a ha => by
  obtain ⟨k, hk, rfl⟩ := List.getElem_of_mem ha
  rw [List.getElem_drop]
  rw [List.length_drop] at hk
  exact h2 _ (by omega) (by omega)
 refine ⟨List.Pairwise.sublist (List.take_sublist _ _) h, ⟨hd, List.Pairwise.sublist (List.drop_sublist _ _) h⟩, fun a ha b hb => ?_⟩
 rcases List.mem_cons.1 hb with rfl | hb
 ·exact ht a ha
 ·exact Int.lt_trans (ht a ha) (hd b hb)

theorem Lev.cut {l : List (Int × Int)} (h : Lev l) (t : Int) (ht : 0 ≤ t) : Lev (cutL l t) := by
 unfold cutL
 split
 ·exact h
 ·rename_i hb
  obtain ⟨y0, r0, hl⟩ := h.head
  obtain ⟨p1, p2⟩ := pl_spec h.rise t (0, y0) r0 hl ht
  have hlt := pl_lt t h.ne
  rw [List.getElem?_eq_getElem hlt]
  dsimp only
  split
  ·exact h
  ·rename_i hne
   refine ⟨ins_rise h.rise _ t _ (fun k hk hki => ?_) (fun k hk hki => p2 k hk (by omega)), fun s hs => ?_, ?_, fun s hs => ?_⟩
   ·have h1 := p1 k hk (by omega)
    rcases Nat.lt_or_ge k (pl l t) with h2 | h2
    ·have h3 := rise_at h.rise k (pl l t) hk hlt h2
     have h4 := p1 (pl l t) hlt (Nat.le_refl _)
     omega
    ·obtain rfl : k = pl l t := by omega
     omega
   ·rcases List.mem_append.1 hs with hs | hs
    ·exact h.top s (List.mem_of_mem_take hs)
    ·rcases List.mem_cons.1 hs with rfl | hs
     ·exact ⟨ht, by show t < _; omega⟩
     ·exact h.top s (List.mem_of_mem_drop hs)
   ·generalize l[pl l t].2 = yy
    generalize pl l t = k
    rw [hl]
    exact ⟨y0, r0.take k ++ (t, yy) :: r0.drop k, rfl⟩
   ·rcases List.mem_append.1 hs with hs | hs
    ·exact h.lvl s (List.mem_of_mem_take hs)
    ·rcases List.mem_cons.1 hs with rfl | hs
     ·exact h.lvl (l[pl l t]) (List.getElem_mem hlt)
     ·exact h.lvl s (List.mem_of_mem_drop hs)

theorem cutL_len {l : List (Int × Int)} (h : Lev l) (t : Int) : l.length ≤ (cutL l t).length ∧ (cutL l t).length ≤ l.length + 1 ∧ cutI l t ≤ (cutL l t).length := by
 unfold cutL cutI
 split
 ·exact ⟨Nat.le_refl _, by omega, Nat.le_refl _⟩
 ·have hlt := pl_lt t h.ne
  rw [List.getElem?_eq_getElem hlt]
  dsimp only
  split
  ·exact ⟨Nat.le_refl _, by omega, by omega⟩
  ·simp only [List.length_append, List.length_cons, List.length_take, List.length_drop]; omega

/-- a level, within the bounds -/
def lvT (v : Int) : Int := mx (-1000000) (mn v 1000000)
def clT (t : Int) : Int := mx 0 (mn t 1099511627776)
theorem clT_range (t : Int) : 0 ≤ clT t ∧ clT t ≤ 1099511627776 := by unfold clT mx mn; repeat' split <;> omega
theorem lvT_range (t : Int) : -1000000 ≤ lvT t ∧ lvT t ≤ 1000000 := by unfold lvT mx mn; repeat' split <;> omega
theorem within_calls (v : Int) (w : World) : Calls Try.prog 56 #[.int .i64 v] w fun e w' => e = .returned (.int .i64 (lvT v)) ∧ Below w.heap.size w w' := usage_within.calls v _ w rfl
theorem clamp_calls (v : Int) (w : World) : Calls Try.prog 8 #[.int .i64 v] w fun e w' => e = .returned (.int .i64 (clT v)) ∧ Below w.heap.size w w' := tick_Clamp.calls v _ w rfl
theorem empty_calls (a b : Int) (w : World) : Calls Try.prog 28 #[.agg #[.int .i64 a, .int .i64 b]] w fun e w' => e = .returned (.bool (decide (clT a ≥ clT b))) ∧ Below w.heap.size w w' := tick_Span_Empty.calls a b _ w rfl

/-- levels of a part are others -/
def mapL (f : Int → Int) (l : List (Int × Int)) (i e : Nat) : List (Int × Int) := l.take i ++ ((l.drop i).take (e - i)).map (fun s => (s.1, lvT (f s.2))) ++ l.drop (max i e)
def turnL (f : Int → Int) (l : List (Int × Int)) (a b : Int) : List (Int × Int) :=
 if clT a ≥ clT b then l else compactL (mapL f (cutL (cutL l (clT a)) (clT b)) (cutI l (clT a)) (cutI (cutL l (clT a)) (clT b)))

set_option maxRecDepth 100000 in
set_option maxHeartbeats 1000000 in
theorem plain_calls (p q c : Nat) (l : List (Int × Int)) (w : World) (hS : StepsIs w p q c l) (hn : l.length < 1099511627776) :
  Calls Try.prog 63 #[.pointer (some ⟨p, 0, none⟩)] w fun ev w' => ev = .returned (.tuple #[]) ∧ StepsIs w' p q c (compactL l) ∧ Turned w w' p q q := by
 have gc : w.cell? ⟨p, 0, none⟩ = some (.slice (some ⟨q, 0, none⟩) l.length c) := (blk_cell hS.ptr 0).trans rfl
 have hcp := compact_calls q c l w hS.row hn
 have HS := Aside0.mk hS
 have hpq := hS.ne
 clear hS
 go_enter Try.func63, Try.ntmps63
 go_wp2_with (go_at_call 77; refine hcp.mono ?_; rintro ev w1 ⟨rfl, R1, hg⟩; have hp1 := (hg.block p (blk_lt HS.out.ptr) (by simpa using hpq)).trans HS.out.ptr; have gp := (blk_cell hp1 0).trans rfl; have fp := blk_frozen hp1 0; have HR := Aside0.mk R1; have HG := Aside0.mk hg; have HP := Aside0.mk hp1; clear R1 hg hp1)
 refine bodyPost_end (results_none rfl _ _ _) rfl ?_
 have hg := HG.out
 refine ⟨rfl, ⟨blk_put HP.out 0 _ rfl, HR.out.set hpq _, hpq, HS.out.cap⟩, hg.os, hg.tape, hg.output, by simp [World.setCell]; exact hg.size, fun k hk hkp hkq => (Below.heap_setCell _ _ _ _ hkp).trans (hg.block k hk (by simpa using hkq)), .inl rfl⟩
end Go.Proofs.Ytlddccmgamlccaa.Us

set_option linter.unusedVariables false
set_option linter.unusedSimpArgs false
namespace Go.Proofs.Ytlddccmgamlccaa.Us
open Go Go.Proofs Go.RowKit Go.Lib Go.Proofs.YtlddccmgamlccaaW.PrintWords Go.Proofs.YtlddccmgamlccaaW.PrintLast Go.Proofs.YtlddccmgamlccaaW.PrintMore

theorem add1_calls (v d : Int) (b : Nat) (w : World) (hb : w.cell? ⟨b, 0, none⟩ = some (.int .i64 d)) (hv : -1000000 ≤ v ∧ v ≤ 1000000) (hd : -2000000 ≤ d ∧ d ≤ 2000000) :
  Calls Try.prog 43 #[.int .i64 v, .pointer (some ⟨b, 0, none⟩)] w fun ev w' => ev = .returned (.int .i64 (v + d)) ∧ w' = w := by
 have hw : IntKind.i64.wrap (v + d) = v + d := by rw [IntKind.wrap_i64]; omega
 go_enter Try.func43, Try.ntmps43
 go_wp2
 go_ret
 exact ⟨rfl, rfl⟩
theorem set1_calls (v d : Int) (b : Nat) (w : World) (hb : w.cell? ⟨b, 0, none⟩ = some (.int .i64 d)) :
  Calls Try.prog 57 #[.int .i64 v, .pointer (some ⟨b, 0, none⟩)] w fun ev w' => ev = .returned (.int .i64 d) ∧ w' = w := by
 go_enter Try.func57, Try.ntmps57
 go_wp2
 go_ret
 exact ⟨rfl, rfl⟩

theorem Turned.cell {w w1 : World} {p q q1 : Nat} (h : Turned w w1 p q q1) {a : Addr} {v : Value} (hc : w.cell? a = some v) (hp : a.block ≠ p) (hq : a.block ≠ q) : w1.cell? a = some v :=
 (World.cell?_of_block (h.block a.block (World.block_lt_of_cell? w a hc) hp hq)).trans hc
theorem Turned.below {w w1 w2 : World} {p q q1 : Nat} (h : Turned w w1 p q q1) (k : Below w1.heap.size w1 w2) : Turned w w2 p q q1 := h.trans (Turned.of_below k)

theorem mapL_zero (f : Int → Int) (l : List (Int × Int)) (i : Nat) : mapL f l i i = l := by
 unfold mapL; rw [Nat.sub_self, List.take_zero, List.map_nil, List.append_nil, Nat.max_self, List.take_append_drop]
theorem mapL_length (f : Int → Int) (l : List (Int × Int)) (i e : Nat) (hi : i ≤ l.length) (he : e ≤ l.length) : (mapL f l i e).length = l.length := by
 unfold mapL; simp only [List.length_append, List.length_take, List.length_map, List.length_drop]; omega
theorem mapL_next (f : Int → Int) (l : List (Int × Int)) (i k : Nat) (hik : i ≤ k) (hk : k < l.length) (h : k < (mapL f l i k).length) :
  (mapL f l i k)[k] = l[k] ∧ mapL f l i (k + 1) = (mapL f l i k).set k (l[k].1, lvT (f l[k].2)) := by
 have hA : (l.take i ++ ((l.drop i).take (k - i)).map (fun s => (s.1, lvT (f s.2)))).length = k := by simp only [List.length_append, List.length_take, List.length_map, List.length_drop]; omega
 have e1 : mapL f l i k = (l.take i ++ ((l.drop i).take (k - i)).map (fun s => (s.1, lvT (f s.2)))) ++ l[k] :: l.drop (k + 1) := by
  unfold mapL; rw [Nat.max_eq_right hik, List.drop_eq_getElem_cons hk]
 have e2 : mapL f l i (k + 1) = (l.take i ++ ((l.drop i).take (k - i)).map (fun s => (s.1, lvT (f s.2)))) ++ (l[k].1, lvT (f l[k].2)) :: l.drop (k + 1) := by
  unfold mapL
  rw [Nat.max_eq_right (by omega), show k + 1 - i = (k - i) + 1 by omega, List.take_add_one, List.getElem?_drop, show i + (k - i) = k by omega, List.getElem?_eq_getElem hk]
  simp
 constructor
 ·have e3 : (mapL f l i k)[k]? = some l[k] := by rw [e1, List.getElem?_append_right (by omega), hA, Nat.sub_self]; rfl
  exact Option.some.inj ((List.getElem?_eq_getElem h).symm.trans e3)
 ·rw [e1, e2, List.set_append_right _ _ (by omega), hA, Nat.sub_self]
  rfl

/-- a row with another level at a place -/
theorem lvc_set : ∀ (l : List (Int × Int)) (k : Nat) (x y y' : Int) (sp : List Value), l[k]? = some (x, y) →
  (lvc l ++ sp).toArray.setIfInBounds (k * 2 + 1) (.int .i64 y') = (lvc (l.set k (x, y')) ++ sp).toArray := fun l k x y y' sp h => by
 rw [List.setIfInBounds_toArray]
 congr 1
 have go : ∀ (l : List (Int × Int)) (k : Nat), l[k]? = some (x, y) → (lvc l ++ sp).set (k * 2 + 1) (.int .i64 y') = lvc (l.set k (x, y')) ++ sp := by
  intro l
  induction l with
  | nil => intro k h; simp at h
  | cons s r ih =>
   intro k h
   cases k with
   | zero => simp at h; subst h; rfl
   | succ k =>
    rw [show (k + 1) * 2 + 1 = (k * 2 + 1) + 1 + 1 by omega]
    simp only [lvc, List.cons_append, List.set_cons_succ]
    rw [ih k (by simpa using h)]
 exact go l k h

/-- the row's block, with another level at a place -/
theorem StepsIs.put {w : World} {p q c : Nat} {l : List (Int × Int)} (h : StepsIs w p q c l) (k : Nat) (x y y' : Int) (hk : l[k]? = some (x, y)) : StepsIs (w.setCell ⟨q, k * 2 + 1, none⟩ (.int .i64 y')) p q c (l.set k (x, y')) := by
 obtain ⟨sp, h1, h2, h3⟩ := h.row
 have hl : (lvc (l.set k (x, y')) ++ sp).length = 2 * c := by
  rw [← h2, List.length_append, List.length_append, lvc_length, lvc_length, List.length_set]
 refine ⟨?_, ⟨sp, blk_put h1 (k * 2 + 1) _ (lvc_set l k x y y' sp hk), hl, by rw [List.length_set]; exact h3⟩, h.ne, h.cap⟩
 rw [List.length_set]
 exact (Below.heap_setCell w ⟨q, k * 2 + 1, none⟩ _ p h.ne).trans h.ptr
theorem Turned.set {w w1 : World} {p q q1 : Nat} (h : Turned w w1 p q q1) (o : Nat) (v : Value) : Turned w (w1.setCell ⟨q1, o, none⟩ v) p q q1 :=
 ⟨h.os, h.tape, h.output, by simp [World.setCell]; exact h.size, fun k hk hp hq => (Below.heap_setCell w1 ⟨q1, o, none⟩ v k (fun e => by have e' : k = q1 := e; rcases h.row with r | r <;> omega)).trans (h.block k hk hp hq), h.row⟩
theorem mapL_over (f : Int → Int) (l : List (Int × Int)) (i e k : Nat) (h1 : i ≤ k) (h2 : k ≤ max i e) (h3 : ¬ k < e) : mapL f l i k = mapL f l i e := by
 rcases Nat.lt_or_ge i e with h | h
 ·obtain rfl : k = e := by omega
  rfl
 ·obtain rfl : k = i := by omega
  rw [mapL_zero]
  unfold mapL
  rw [Nat.max_eq_left h, show e - k = 0 by omega, List.take_zero, List.map_nil, List.append_nil, List.take_append_drop]
end Go.Proofs.Ytlddccmgamlccaa.Us

set_option linter.unusedVariables false
set_option linter.unusedSimpArgs false
namespace Go.Proofs.Ytlddccmgamlccaa.Us
open Go Go.Proofs Go.RowKit Go.Lib Go.Proofs.YtlddccmgamlccaaW.PrintWords Go.Proofs.YtlddccmgamlccaaW.PrintLast Go.Proofs.YtlddccmgamlccaaW.PrintMore

def turnAdd1.T10 : Bool × List (List Nat × List Nat) := (true, [([], []), ([0], [0]), ([1], [1]), ([2], [2]), ([], []), ([], []), ([], []), ([6], [6]), ([7], [7]), ([8], [8]), ([], []), ([9, 10], [9, 10]), ([11], [11]), ([12], [12]), ([5, 13], [5, 13]), ([14, 14], [14]), ([3, 4, 0, 1, 2, 3, 4, 5, 6, 7, 8, 9, 10, 11, 12, 13, 14, 15], [3, 4]), ([16, 0, 1, 2, 3, 4, 5, 6, 7, 8, 9, 10, 11, 12, 13, 14, 15], [16]), ([17, 15, 15, 0, 1, 2, 3, 4, 5, 6, 7, 8, 9, 10, 11, 12, 13, 14, 15], [15, 17])])
def turnAdd1.B10 : List Nat := [0, 1, 3, 7, 0, 0, 0, 64, 192, 448, 0, 1984, 4032, 8128, 16352, 32736, 65535, 131071, 262143]
theorem turnAdd1.tab10 : rtab .any (opsOf Try.f42 10) = turnAdd1.T10 := by kernel_rfl
theorem turnAdd1.bits10 : waitsOk turnAdd1.T10.2 turnAdd1.B10 = true := by kernel_rfl
set_option maxRecDepth 100000 in
set_option maxHeartbeats 8000000 in
theorem turnAdd1_calls (p q c b : Nat) (l : List (Int × Int)) (fa fb d : Int) (w : World) (hS : StepsIs w p q c l) (hL : Lev l) (hd : w.cell? ⟨b, 0, none⟩ = some (.int .i64 d)) (hbp : b ≠ p) (hbq : b ≠ q) (hdr : -2000000 ≤ d ∧ d ≤ 2000000) (hn : l.length + 2 < 1099511627776) :
  Calls Try.prog 42 #[.pointer (some ⟨p, 0, none⟩), .agg #[.int .i64 fa, .int .i64 fb], .func (.func 43) #[] #[.pointer (some ⟨b, 0, none⟩)]] w fun ev w' =>
   ev = .returned (.int .i64 0) ∧ ∃ q1 c1, StepsIs w' p q1 c1 (turnL (fun v => v + d) l fa fb) ∧ Turned w w' p q q1 := by
 have hB0 : Below w.heap.size w (w.alloc (.cells #[.int .i64 fa, .int .i64 fb] 25)) := (Below.refl _ w).alloc (Nat.le_refl _) _
 have n0 : ((w.alloc (.cells #[.int .i64 fa, .int .i64 fb] 25))).heap[w.heap.size]? = some (.cells #[.int .i64 fa, .int .i64 fb] 25 (0, 0)) := blk_new w _
 have s0 := blk_cell n0 0
 have s1 := blk_cell n0 1
 have hne := hL.ne
 have hpB : p < w.heap.size := blk_lt hS.ptr
 have hqB : q < w.heap.size := blk_lt hS.row.choose_spec.1
 have hbB : b < w.heap.size := World.block_lt_of_cell? w _ hd
 obtain ⟨A', hA'⟩ : ∃ x, clT fa = x := ⟨_, rfl⟩
 obtain ⟨B', hB'⟩ : ∃ x, clT fb = x := ⟨_, rfl⟩
 have rA := clT_range fa
 have rB := clT_range fb
 rw [hA'] at rA
 rw [hB'] at rB
 have HB0 := Aside0.mk hB0
 have HS0 := Aside0.mk (hS.below hB0)
 have HS := Aside0.mk hS
 have HN0 := Aside0.mk n0
 clear hB0 hS n0
 go_enter Try.func42, Try.ntmps42
 go_wp2_with (first
  | (go_at_call 40; refine (none_calls p q c l _ HS0.out hne).mono ?_; rintro ev w1 ⟨rfl, rfl⟩)
  | (go_at_call 28; refine (empty_calls fa fb _).mono ?_; rintro ev w2 ⟨rfl, hb2⟩; rw [hA', hB']; have n2 := blk_below HN0.out hb2; have s0 := blk_cell n2 0; have s1 := blk_cell n2 1))
 ·have hge : A' ≥ B' := by assumption
  go_ret
  refine ⟨rfl, q, c, ?_, Turned.of_below (below_step HB0.out hb2)⟩
  unfold turnL
  rw [hA', hB', if_pos hge]
  exact HS0.out.below hb2
 have hlt : ¬ A' ≥ B' := Int.not_le.2 (by assumption)
 refine (clamp_calls fa _).mono ?_; rintro ev w3 ⟨rfl, hb3⟩; rw [hA']
 obtain ⟨y0, r0, hl0⟩ := hL.head
 have hb3' := below_step (below_step HB0.out hb2) hb3
 have hL1 := hL.cut A' rA.1
 obtain ⟨hn1, hn2, hn3⟩ := cutL_len hL A'
 have HC := Aside0.mk (cut_calls p q c l A' _ (HS.out.below hb3') hL.rise hL.tame ⟨rA.1, by omega⟩ (by omega) (0, y0) r0 hl0 rA.1)
 obtain ⟨L1, hL1e⟩ : ∃ L1, cutL l A' = L1 := ⟨_, rfl⟩
 obtain ⟨I1, hI1e⟩ : ∃ L1, cutI l A' = L1 := ⟨_, rfl⟩
 have s3 : w3.cell? ⟨w.heap.size, 1, none⟩ = some (.int .i64 fb) := below_cell1 hb3 s1
 rw [hL1e, hI1e] at HC
 rw [hL1e] at hL1 hn1 hn2 hn3
 rw [hI1e] at hn3
 have T3 := Turned.of_below (p := p) (q := q) hb3'
 clear hl0
 go_wp2_with (go_at_call 62; refine HC.out.mono ?_; rintro ev w4 ⟨rfl, q1, c1, S1, T1⟩; have s4 : w4.cell? ⟨w.heap.size, 1, none⟩ = some (.int .i64 fb) := T1.cell (a := ⟨w.heap.size, 1, none⟩) s3 (by show w.heap.size ≠ p; omega) (by show w.heap.size ≠ q; omega); have T4 := T3.trans T1; have HS4 := Aside0.mk S1; clear S1 T1)
 refine (clamp_calls fb _).mono ?_; rintro ev w5 ⟨rfl, hb5⟩; rw [hB']
 obtain ⟨y1, r1, hl1⟩ := hL1.head
 have hL2 := hL1.cut B' rB.1
 obtain ⟨hm1, hm2, hm3⟩ := cutL_len hL1 B'
 have HC2 := Aside0.mk (cut_calls p q1 c1 L1 B' _ (HS4.out.below hb5) hL1.rise hL1.tame ⟨rB.1, by omega⟩ (by omega) (0, y1) r1 hl1 rB.1)
 obtain ⟨L, hL2e⟩ : ∃ L, cutL L1 B' = L := ⟨_, rfl⟩
 obtain ⟨I2, hI2e⟩ : ∃ I2, cutI L1 B' = I2 := ⟨_, rfl⟩
 rw [hL2e, hI2e] at HC2
 rw [hL2e] at hL2 hm1 hm2 hm3
 rw [hI2e] at hm3
 have T5 := T4.below hb5
 have hfin : turnL (fun v => v + d) l fa fb = compactL (mapL (fun v => v + d) L I1 I2) := by
  unfold turnL; rw [hA', hB', if_neg (by omega), hL1e, hI1e, hL2e, hI2e]
 have HFIN := Aside0.mk hfin
 clear hl1 hfin
 go_wp2_with (go_at_call 62; refine HC2.out.mono ?_; rintro ev w6 ⟨rfl, q2, c2, S2, T2⟩; have T6 := T5.trans T2; have HS6 := Aside0.mk S2; clear S2 T2)
 obtain ⟨n, hnn⟩ : ∃ n, L.length = n := ⟨_, rfl⟩
 rw [hnn] at hm1 hm2 hm3
 have HNN := Aside0.mk hnn
 clear hnn
 go_loopw [9] (fun v9 wr => ∃ k : Nat, v9 = .int .i64 (k : Int) ∧ I1 ≤ k ∧ k ≤ max I1 I2 ∧ StepsIs wr p q2 c2 (mapL (fun v => v + d) L I1 k) ∧ Turned w wr p q q2)
  (fun v9 wr => n - natV v9)
 case atStart =>
  refine ⟨I1, rfl, Nat.le_refl _, by omega, ?_, T6⟩
  rw [mapL_zero]; exact HS6.out
 case round =>
  obtain ⟨k, rfl, hk1, hk2, hSk, hTk⟩ := hrel
  by_cases hke : k < I2
  ·have e1 : decide ((k : Int) < (I2 : Int)) = true := by simp; omega
   have hkn : k < L.length := by rw [HNN.out]; omega
   have hml : (mapL (fun v => v + d) L I1 k).length = n := by rw [mapL_length _ _ _ _ (by rw [HNN.out]; omega) (by omega)]; exact HNN.out
   obtain ⟨hmk, hmn⟩ := mapL_next (fun v => v + d) L I1 k hk1 hkn (by rw [hml]; omega)
   obtain ⟨x, y, hxy, gx, gy⟩ := hSk.row.at_ k (by rw [hml]; omega)
   rw [hmk] at hxy
   have hyr : -1000000 ≤ y ∧ y ≤ 1000000 := by have := hL2.lvl _ (List.getElem_mem hkn); rw [hxy] at this; exact this
   have hin : (k : Int) < (n : Int) := by omega
   have gp : wr.cell? ⟨p, 0, none⟩ = some (.slice (some ⟨q2, 0, none⟩) n c2) := by rw [← hml]; exact (blk_cell hSk.ptr 0).trans rfl
   have hdb : wr.cell? ⟨b, 0, none⟩ = some (.int .i64 d) := hTk.cell hd hbp hbq
   have hpq2 : ¬ (p = q2) := hSk.ne
   rw [hxy] at hmn hmk
   have ST := Aside0.mk hSk
   have HMK := Aside0.mk ((List.getElem?_eq_getElem (by rw [hml]; omega)).trans (congrArg some hmk))
   have HMN := Aside0.mk hmn
   have HML := Aside0.mk hml
   have HTK := Aside0.mk hTk
   clear hSk hmk hmn hml hTk hxy
   go_wp2
   have hdb2 : wr.drew.cell? ⟨b, 0, none⟩ = some (.int .i64 d) := hdb
   refine start_ (n := 19) (S := fun w' => w'.cell? ⟨p, 0, none⟩ = some (.slice (some ⟨q2, 0, none⟩) n c2)) (ds := [18]) #[false, false, false, false, false, false, false, false, false, false, false, false, false, false, false, false, false, false, false] (by kernel_rfl) rfl rfl (gp) (fun hHeld => ?_); refine with_tabW turnAdd1.tab10 turnAdd1.bits10 (fun HT_ HW_ => ?_)
   refine pure_ (i := 0) (N := some 30) (v := ?_) (a' := ?_) #[true, false, false, false, false, false, false, false, false, false, false, false, false, false, false, false, false, false, false] rfl rfl (any_of HT_.out (by kernel_rfl)) (fun _ _ _ h => h) (Or.inl ⟨by rfl, ?_⟩) ?_ ?_
   rotate_left
   ·intro w'
    go_simp
    with_reducible rfl
   rotate_left
   ·simp only [Act.put, List.setIfInBounds_toArray, List.set_cons_zero, List.set_cons_succ, i64_w, i32_w]
    rfl
   refine pure_ (i := 1) (N := some 31) (v := ?_) (a' := ?_) #[true, true, false, false, false, false, false, false, false, false, false, false, false, false, false, false, false, false, false] rfl rfl (any_of HT_.out (by kernel_rfl)) (fun _ _ _ h => h) (Or.inl ⟨by rfl, ?_⟩) ?_ ?_
   rotate_left
   ·intro w'
    go_simp
    with_reducible rfl
   rotate_left
   ·simp only [Act.put, List.setIfInBounds_toArray, List.set_cons_zero, List.set_cons_succ, i64_w, i32_w]
    rfl
   refine pure_ (i := 2) (N := some 32) (v := ?_) (a' := ?_) #[true, true, true, false, false, false, false, false, false, false, false, false, false, false, false, false, false, false, false] rfl rfl (any_of HT_.out (by kernel_rfl)) (fun _ _ _ h => h) (Or.inl ⟨by rfl, ?_⟩) ?_ ?_
   rotate_left
   ·intro w'
    go_simp
    with_reducible rfl
   rotate_left
   ·simp only [Act.put, List.setIfInBounds_toArray, List.set_cons_zero, List.set_cons_succ, i64_w, i32_w]
    rfl
   refine pure_ (i := 4) (N := some 34) (v := ?_) (a' := ?_) #[true, true, true, false, true, false, false, false, false, false, false, false, false, false, false, false, false, false, false] rfl rfl (any_of HT_.out (by kernel_rfl)) (fun _ _ _ h => h) (Or.inl ⟨by rfl, ?_⟩) ?_ ?_
   rotate_left
   ·intro w'
    go_simp
    with_reducible rfl
   rotate_left
   ·simp only [Act.put, List.setIfInBounds_toArray, List.set_cons_zero, List.set_cons_succ, i64_w, i32_w]
    rfl
   refine pure_ (i := 5) (N := some 35) (v := ?_) (a' := ?_) #[true, true, true, false, true, true, false, false, false, false, false, false, false, false, false, false, false, false, false] rfl rfl (any_of HT_.out (by kernel_rfl)) (fun _ _ _ h => h) (Or.inl ⟨by rfl, ?_⟩) ?_ ?_
   rotate_left
   ·intro w'
    go_simp
    with_reducible rfl
   rotate_left
   ·simp only [Act.put, List.setIfInBounds_toArray, List.set_cons_zero, List.set_cons_succ, i64_w, i32_w]
    rfl
   refine pure_ (i := 6) (N := some 36) (v := ?_) (a' := ?_) #[true, true, true, false, true, true, true, false, false, false, false, false, false, false, false, false, false, false, false] rfl rfl (any_of HT_.out (by kernel_rfl)) (fun _ _ _ h => h) (Or.inl ⟨by rfl, ?_⟩) ?_ ?_
   rotate_left
   ·intro w'
    go_simp
    with_reducible rfl
   rotate_left
   ·simp only [Act.put, List.setIfInBounds_toArray, List.set_cons_zero, List.set_cons_succ, i64_w, i32_w]
    rfl
   refine pure_ (i := 7) (N := some 37) (v := ?_) (a' := ?_) #[true, true, true, false, true, true, true, true, false, false, false, false, false, false, false, false, false, false, false] rfl rfl (any_of HT_.out (by kernel_rfl)) (fun _ _ _ h => h) (Or.inl ⟨by rfl, ?_⟩) ?_ ?_
   rotate_left
   ·intro w'
    go_simp
    with_reducible rfl
   rotate_left
   ·simp only [Act.put, List.setIfInBounds_toArray, List.set_cons_zero, List.set_cons_succ, i64_w, i32_w]
    rfl
   refine pure_ (i := 8) (N := some 38) (v := ?_) (a' := ?_) #[true, true, true, false, true, true, true, true, true, false, false, false, false, false, false, false, false, false, false] rfl rfl (any_of HT_.out (by kernel_rfl)) (fun _ _ _ h => h) (Or.inl ⟨by rfl, ?_⟩) ?_ ?_
   rotate_left
   ·intro w'
    go_simp
    with_reducible rfl
   rotate_left
   ·simp only [Act.put, List.setIfInBounds_toArray, List.set_cons_zero, List.set_cons_succ, i64_w, i32_w]
    rfl
   refine pure_ (i := 10) (N := some 40) (v := ?_) (a' := ?_) #[true, true, true, false, true, true, true, true, true, false, true, false, false, false, false, false, false, false, false] rfl rfl (any_of HT_.out (by kernel_rfl)) (fun _ _ _ h => h) (Or.inl ⟨by rfl, ?_⟩) ?_ ?_
   rotate_left
   ·intro w'
    go_simp
    with_reducible rfl
   rotate_left
   ·simp only [Act.put, List.setIfInBounds_toArray, List.set_cons_zero, List.set_cons_succ, i64_w, i32_w]
    rfl
   refine take_ (i := 3) (N := some 33) (v := ?_) (a' := ?_) #[true, true, true, true, true, true, true, true, true, false, true, false, false, false, false, false, false, false, false] rfl rfl (take_ofW HT_.out HW_.out (by kernel_rfl)) (fun _ _ _ h => h) (Or.inl ⟨by rfl, ?_⟩) hHeld ?_ ?_
   rotate_left
   ·rintro w' s0
    go_simp
    with_reducible rfl
   rotate_left
   ·simp only [Act.put, List.setIfInBounds_toArray, List.set_cons_zero, List.set_cons_succ, i64_w, i32_w]
    rfl
   refine take_ (i := 9) (N := some 39) (v := ?_) (a' := ?_) #[true, true, true, true, true, true, true, true, true, true, true, false, false, false, false, false, false, false, false] rfl rfl (take_ofW HT_.out HW_.out (by kernel_rfl)) (fun _ _ _ h => h) (Or.inl ⟨by rfl, ?_⟩) hHeld ?_ ?_
   rotate_left
   ·rintro w' s0
    go_simp
    with_reducible rfl
   rotate_left
   ·simp only [Act.put, List.setIfInBounds_toArray, List.set_cons_zero, List.set_cons_succ, i64_w, i32_w]
    rfl
   refine pure_ (i := 11) (N := some 41) (v := ?_) (a' := ?_) #[true, true, true, true, true, true, true, true, true, true, true, true, false, false, false, false, false, false, false] rfl rfl (any_of HT_.out (by kernel_rfl)) (fun _ _ _ h => h) (Or.inl ⟨by rfl, ?_⟩) ?_ ?_
   rotate_left
   ·intro w'
    go_simp
    with_reducible rfl
   rotate_left
   ·simp only [Act.put, List.setIfInBounds_toArray, List.set_cons_zero, List.set_cons_succ, i64_w, i32_w]
    rfl
   refine pure_ (i := 12) (N := some 42) (v := ?_) (a' := ?_) #[true, true, true, true, true, true, true, true, true, true, true, true, true, false, false, false, false, false, false] rfl rfl (any_of HT_.out (by kernel_rfl)) (fun _ _ _ h => h) (Or.inl ⟨by rfl, ?_⟩) ?_ ?_
   rotate_left
   ·intro w'
    go_simp
    with_reducible rfl
   rotate_left
   ·simp only [Act.put, List.setIfInBounds_toArray, List.set_cons_zero, List.set_cons_succ, i64_w, i32_w]
    rfl
   refine one_ (i := 13) (N := some 43) #[true, true, true, true, true, true, true, true, true, true, true, true, true, true, false, false, false, false, false] rfl rfl (one_of HT_.out (by kernel_rfl)) (by decide) (fun K hK => ?_)
   refine value_ rfl rfl (by go_simp; exact ⟨rfl, rfl⟩) ?_
   refine hK.out _ _ (hHeld) (fun hHeld => ?_)
   clear hK K
   refine norm_ (a' := ?_) ?_ ?_
   rotate_left
   ·show Act.put _ (some 43) _ = _
    simp only [Act.put, List.setIfInBounds_toArray, List.set_cons_zero, List.set_cons_succ, i64_w, i32_w]
    rfl
   refine one_ (i := 14) (N := some 44) #[true, true, true, true, true, true, true, true, true, true, true, true, true, true, true, false, false, false, false] rfl rfl (one_of HT_.out (by kernel_rfl)) (by decide) (fun K hK => ?_)
   refine call_ 43 #[.int .i64 y, .pointer (some ⟨b, 0, none⟩)] (by rfl) rfl (by (have he := (fun w => enters_ Try.func43 (by kernel_rfl) rfl #[.int .i64 y, .pointer (some ⟨b, 0, none⟩)] w)); unfold execOp; simp [resolve, Deferred.ofValue, invoke, Act.eval, he]) ?_
   with_reducible refine (add1_calls y d b wr.drew hdb2 hyr hdr).mono ?_
   rintro ev w5 ⟨rfl, rfl⟩
   refine ⟨_, rfl, ?_⟩
   refine hK.out _ _ (hHeld) (fun hHeld => ?_)
   clear hK K
   refine norm_ (a' := ?_) ?_ ?_
   rotate_left
   ·show Act.put _ (some 44) _ = _
    simp only [Act.put, List.setIfInBounds_toArray, List.set_cons_zero, List.set_cons_succ, i64_w, i32_w]
    rfl
   refine one_ (i := 15) (N := some 45) #[true, true, true, true, true, true, true, true, true, true, true, true, true, true, true, true, false, false, false] rfl rfl (one_of HT_.out (by kernel_rfl)) (by decide) (fun K hK => ?_)
   refine goes_ Try.func56 (by kernel_rfl) rfl #[.int .i64 (y + d)] (by rfl) rfl rfl (by (try simp only [List.map_toArray, List.map_cons, List.map_nil]); first | done | rfl | (simp only [List.length_drop, List.length_take]; rfl)) ?_
   with_reducible refine (within_calls _ _).mono ?_
   rintro ev w6 ⟨rfl, hb6⟩
   have gp6 := below_cell1 hb6 gp
   have gy6 := below_cell1 hb6 gy
   have ST6 := ST.out.below (show Below wr.heap.size wr w6 from (below_drew1 (Below.refl _ wr)).trans hb6)
   have fr6 := blk_frozen ST6.row.choose_spec.1 (k * 2 + 1)
   refine ⟨_, rfl, ?_⟩
   refine hK.out _ _ (gp6) (fun hHeld => ?_)
   clear hK K
   refine norm_ (a' := ?_) ?_ ?_
   rotate_left
   ·show Act.put _ (some 45) _ = _
    simp only [Act.put, List.setIfInBounds_toArray, List.set_cons_zero, List.set_cons_succ, i64_w, i32_w]
    rfl
   refine pure_ (i := 16) (N := some 46) (v := ?_) (a' := ?_) #[true, true, true, true, true, true, true, true, true, true, true, true, true, true, true, true, true, false, false] rfl rfl (any_of HT_.out (by kernel_rfl)) (fun _ _ _ h => h) (Or.inl ⟨by rfl, ?_⟩) ?_ ?_
   rotate_left
   ·intro w'
    go_simp
    with_reducible rfl
   rotate_left
   ·simp only [Act.put, List.setIfInBounds_toArray, List.set_cons_zero, List.set_cons_succ, i64_w, i32_w]
    rfl
   refine pure_ (i := 17) (N := some 47) (v := ?_) (a' := ?_) #[true, true, true, true, true, true, true, true, true, true, true, true, true, true, true, true, true, true, false] rfl rfl (any_of HT_.out (by kernel_rfl)) (fun _ _ _ h => h) (Or.inl ⟨by rfl, ?_⟩) ?_ ?_
   rotate_left
   ·intro w'
    go_simp
    with_reducible rfl
   rotate_left
   ·simp only [Act.put, List.setIfInBounds_toArray, List.set_cons_zero, List.set_cons_succ, i64_w, i32_w]
    rfl
   refine last_ (i := 18) (N := none) #[true, true, true, true, true, true, true, true, true, true, true, true, true, true, true, true, true, true, true] rfl rfl (one_of HT_.out (by kernel_rfl)) (by decide) (fun K hK => ?_)
   refine skip_ (w1 := ?_) (by rfl) rfl ?_ ?_
   rotate_left
   ·go_simp
    rfl
   refine hK.out _ _ ?_
   clear hK K
   refine done_ (done_of HT_.out (by kernel_rfl)) ?_
   go_wp2
   go_roundw
   case rel =>
    refine ⟨k + 1, by go_num, by omega, by omega, ?_, (HTK.out.below (show Below wr.heap.size wr w6 from (below_drew1 (Below.refl _ wr)).trans hb6)).set _ _⟩
    rw [HMN.out]
    exact ST6.put k x y _ HMK.out
   case measure => simp [natV]; omega
  ·have e1 : decide ((k : Int) < (I2 : Int)) = false := by simp; omega
   have hov := mapL_over (fun v => v + d) L I1 I2 k hk1 hk2 hke
   rw [hov] at hSk
   have hml : (mapL (fun v => v + d) L I1 I2).length = n := by rw [mapL_length _ _ _ _ (by rw [HNN.out]; omega) (by rw [HNN.out]; omega)]; exact HNN.out
   have HTK := Aside0.mk hTk
   have HSK := Aside0.mk hSk
   have HP := Aside0.mk (plain_calls p q2 c2 _ wr hSk (by rw [hml]; omega))
   clear hSk hTk hov hml
   go_wp2_with (go_at_call 63; refine HP.out.mono ?_; rintro ev w7 ⟨rfl, S7, T7⟩)
   go_ret
   refine ⟨rfl, q2, c2, ?_, HTK.out.trans T7⟩
   rw [HFIN.out]
   exact S7
def turnSet1.T10 : Bool × List (List Nat × List Nat) := (true, [([], []), ([0], [0]), ([1], [1]), ([2], [2]), ([], []), ([], []), ([], []), ([6], [6]), ([7], [7]), ([8], [8]), ([], []), ([9, 10], [9, 10]), ([11], [11]), ([12], [12]), ([5, 13], [5, 13]), ([14, 14], [14]), ([3, 4, 0, 1, 2, 3, 4, 5, 6, 7, 8, 9, 10, 11, 12, 13, 14, 15], [3, 4]), ([16, 0, 1, 2, 3, 4, 5, 6, 7, 8, 9, 10, 11, 12, 13, 14, 15], [16]), ([17, 15, 15, 0, 1, 2, 3, 4, 5, 6, 7, 8, 9, 10, 11, 12, 13, 14, 15], [15, 17])])
def turnSet1.B10 : List Nat := [0, 1, 3, 7, 0, 0, 0, 64, 192, 448, 0, 1984, 4032, 8128, 16352, 32736, 65535, 131071, 262143]
theorem turnSet1.tab10 : rtab .any (opsOf Try.f42 10) = turnSet1.T10 := by kernel_rfl
theorem turnSet1.bits10 : waitsOk turnSet1.T10.2 turnSet1.B10 = true := by kernel_rfl
set_option maxRecDepth 100000 in
set_option maxHeartbeats 8000000 in
theorem turnSet1_calls (p q c b : Nat) (l : List (Int × Int)) (fa fb d : Int) (w : World) (hS : StepsIs w p q c l) (hL : Lev l) (hd : w.cell? ⟨b, 0, none⟩ = some (.int .i64 d)) (hbp : b ≠ p) (hbq : b ≠ q) (hn : l.length + 2 < 1099511627776) :
  Calls Try.prog 42 #[.pointer (some ⟨p, 0, none⟩), .agg #[.int .i64 fa, .int .i64 fb], .func (.func 57) #[] #[.pointer (some ⟨b, 0, none⟩)]] w fun ev w' =>
   ev = .returned (.int .i64 0) ∧ ∃ q1 c1, StepsIs w' p q1 c1 (turnL (fun v => d) l fa fb) ∧ Turned w w' p q q1 := by
 have hB0 : Below w.heap.size w (w.alloc (.cells #[.int .i64 fa, .int .i64 fb] 25)) := (Below.refl _ w).alloc (Nat.le_refl _) _
 have n0 : ((w.alloc (.cells #[.int .i64 fa, .int .i64 fb] 25))).heap[w.heap.size]? = some (.cells #[.int .i64 fa, .int .i64 fb] 25 (0, 0)) := blk_new w _
 have s0 := blk_cell n0 0
 have s1 := blk_cell n0 1
 have hne := hL.ne
 have hpB : p < w.heap.size := blk_lt hS.ptr
 have hqB : q < w.heap.size := blk_lt hS.row.choose_spec.1
 have hbB : b < w.heap.size := World.block_lt_of_cell? w _ hd
 obtain ⟨A', hA'⟩ : ∃ x, clT fa = x := ⟨_, rfl⟩
 obtain ⟨B', hB'⟩ : ∃ x, clT fb = x := ⟨_, rfl⟩
 have rA := clT_range fa
 have rB := clT_range fb
 rw [hA'] at rA
 rw [hB'] at rB
 have HB0 := Aside0.mk hB0
 have HS0 := Aside0.mk (hS.below hB0)
 have HS := Aside0.mk hS
 have HN0 := Aside0.mk n0
 clear hB0 hS n0
 go_enter Try.func42, Try.ntmps42
 go_wp2_with (first
  | (go_at_call 40; refine (none_calls p q c l _ HS0.out hne).mono ?_; rintro ev w1 ⟨rfl, rfl⟩)
  | (go_at_call 28; refine (empty_calls fa fb _).mono ?_; rintro ev w2 ⟨rfl, hb2⟩; rw [hA', hB']; have n2 := blk_below HN0.out hb2; have s0 := blk_cell n2 0; have s1 := blk_cell n2 1))
 ·have hge : A' ≥ B' := by assumption
  go_ret
  refine ⟨rfl, q, c, ?_, Turned.of_below (below_step HB0.out hb2)⟩
  unfold turnL
  rw [hA', hB', if_pos hge]
  exact HS0.out.below hb2
 have hlt : ¬ A' ≥ B' := Int.not_le.2 (by assumption)
 refine (clamp_calls fa _).mono ?_; rintro ev w3 ⟨rfl, hb3⟩; rw [hA']
 obtain ⟨y0, r0, hl0⟩ := hL.head
 have hb3' := below_step (below_step HB0.out hb2) hb3
 have hL1 := hL.cut A' rA.1
 obtain ⟨hn1, hn2, hn3⟩ := cutL_len hL A'
 have HC := Aside0.mk (cut_calls p q c l A' _ (HS.out.below hb3') hL.rise hL.tame ⟨rA.1, by omega⟩ (by omega) (0, y0) r0 hl0 rA.1)
 obtain ⟨L1, hL1e⟩ : ∃ L1, cutL l A' = L1 := ⟨_, rfl⟩
 obtain ⟨I1, hI1e⟩ : ∃ L1, cutI l A' = L1 := ⟨_, rfl⟩
 have s3 : w3.cell? ⟨w.heap.size, 1, none⟩ = some (.int .i64 fb) := below_cell1 hb3 s1
 rw [hL1e, hI1e] at HC
 rw [hL1e] at hL1 hn1 hn2 hn3
 rw [hI1e] at hn3
 have T3 := Turned.of_below (p := p) (q := q) hb3'
 clear hl0
 go_wp2_with (go_at_call 62; refine HC.out.mono ?_; rintro ev w4 ⟨rfl, q1, c1, S1, T1⟩; have s4 : w4.cell? ⟨w.heap.size, 1, none⟩ = some (.int .i64 fb) := T1.cell (a := ⟨w.heap.size, 1, none⟩) s3 (by show w.heap.size ≠ p; omega) (by show w.heap.size ≠ q; omega); have T4 := T3.trans T1; have HS4 := Aside0.mk S1; clear S1 T1)
 refine (clamp_calls fb _).mono ?_; rintro ev w5 ⟨rfl, hb5⟩; rw [hB']
 obtain ⟨y1, r1, hl1⟩ := hL1.head
 have hL2 := hL1.cut B' rB.1
 obtain ⟨hm1, hm2, hm3⟩ := cutL_len hL1 B'
 have HC2 := Aside0.mk (cut_calls p q1 c1 L1 B' _ (HS4.out.below hb5) hL1.rise hL1.tame ⟨rB.1, by omega⟩ (by omega) (0, y1) r1 hl1 rB.1)
 obtain ⟨L, hL2e⟩ : ∃ L, cutL L1 B' = L := ⟨_, rfl⟩
 obtain ⟨I2, hI2e⟩ : ∃ I2, cutI L1 B' = I2 := ⟨_, rfl⟩
 rw [hL2e, hI2e] at HC2
 rw [hL2e] at hL2 hm1 hm2 hm3
 rw [hI2e] at hm3
 have T5 := T4.below hb5
 have hfin : turnL (fun v => d) l fa fb = compactL (mapL (fun v => d) L I1 I2) := by
  unfold turnL; rw [hA', hB', if_neg (by omega), hL1e, hI1e, hL2e, hI2e]
 have HFIN := Aside0.mk hfin
 clear hl1 hfin
 go_wp2_with (go_at_call 62; refine HC2.out.mono ?_; rintro ev w6 ⟨rfl, q2, c2, S2, T2⟩; have T6 := T5.trans T2; have HS6 := Aside0.mk S2; clear S2 T2)
 obtain ⟨n, hnn⟩ : ∃ n, L.length = n := ⟨_, rfl⟩
 rw [hnn] at hm1 hm2 hm3
 have HNN := Aside0.mk hnn
 clear hnn
 go_loopw [9] (fun v9 wr => ∃ k : Nat, v9 = .int .i64 (k : Int) ∧ I1 ≤ k ∧ k ≤ max I1 I2 ∧ StepsIs wr p q2 c2 (mapL (fun v => d) L I1 k) ∧ Turned w wr p q q2)
  (fun v9 wr => n - natV v9)
 case atStart =>
  refine ⟨I1, rfl, Nat.le_refl _, by omega, ?_, T6⟩
  rw [mapL_zero]; exact HS6.out
 case round =>
  obtain ⟨k, rfl, hk1, hk2, hSk, hTk⟩ := hrel
  by_cases hke : k < I2
  ·have e1 : decide ((k : Int) < (I2 : Int)) = true := by simp; omega
   have hkn : k < L.length := by rw [HNN.out]; omega
   have hml : (mapL (fun v => d) L I1 k).length = n := by rw [mapL_length _ _ _ _ (by rw [HNN.out]; omega) (by omega)]; exact HNN.out
   obtain ⟨hmk, hmn⟩ := mapL_next (fun v => d) L I1 k hk1 hkn (by rw [hml]; omega)
   obtain ⟨x, y, hxy, gx, gy⟩ := hSk.row.at_ k (by rw [hml]; omega)
   rw [hmk] at hxy
   have hyr : -1000000 ≤ y ∧ y ≤ 1000000 := by have := hL2.lvl _ (List.getElem_mem hkn); rw [hxy] at this; exact this
   have hin : (k : Int) < (n : Int) := by omega
   have gp : wr.cell? ⟨p, 0, none⟩ = some (.slice (some ⟨q2, 0, none⟩) n c2) := by rw [← hml]; exact (blk_cell hSk.ptr 0).trans rfl
   have hdb : wr.cell? ⟨b, 0, none⟩ = some (.int .i64 d) := hTk.cell hd hbp hbq
   have hpq2 : ¬ (p = q2) := hSk.ne
   rw [hxy] at hmn hmk
   have ST := Aside0.mk hSk
   have HMK := Aside0.mk ((List.getElem?_eq_getElem (by rw [hml]; omega)).trans (congrArg some hmk))
   have HMN := Aside0.mk hmn
   have HML := Aside0.mk hml
   have HTK := Aside0.mk hTk
   clear hSk hmk hmn hml hTk hxy
   go_wp2
   have hdb2 : wr.drew.cell? ⟨b, 0, none⟩ = some (.int .i64 d) := hdb
   refine start_ (n := 19) (S := fun w' => w'.cell? ⟨p, 0, none⟩ = some (.slice (some ⟨q2, 0, none⟩) n c2)) (ds := [18]) #[false, false, false, false, false, false, false, false, false, false, false, false, false, false, false, false, false, false, false] (by kernel_rfl) rfl rfl (gp) (fun hHeld => ?_); refine with_tabW turnSet1.tab10 turnSet1.bits10 (fun HT_ HW_ => ?_)
   refine pure_ (i := 0) (N := some 30) (v := ?_) (a' := ?_) #[true, false, false, false, false, false, false, false, false, false, false, false, false, false, false, false, false, false, false] rfl rfl (any_of HT_.out (by kernel_rfl)) (fun _ _ _ h => h) (Or.inl ⟨by rfl, ?_⟩) ?_ ?_
   rotate_left
   ·intro w'
    go_simp
    with_reducible rfl
   rotate_left
   ·simp only [Act.put, List.setIfInBounds_toArray, List.set_cons_zero, List.set_cons_succ, i64_w, i32_w]
    rfl
   refine pure_ (i := 1) (N := some 31) (v := ?_) (a' := ?_) #[true, true, false, false, false, false, false, false, false, false, false, false, false, false, false, false, false, false, false] rfl rfl (any_of HT_.out (by kernel_rfl)) (fun _ _ _ h => h) (Or.inl ⟨by rfl, ?_⟩) ?_ ?_
   rotate_left
   ·intro w'
    go_simp
    with_reducible rfl
   rotate_left
   ·simp only [Act.put, List.setIfInBounds_toArray, List.set_cons_zero, List.set_cons_succ, i64_w, i32_w]
    rfl
   refine pure_ (i := 2) (N := some 32) (v := ?_) (a' := ?_) #[true, true, true, false, false, false, false, false, false, false, false, false, false, false, false, false, false, false, false] rfl rfl (any_of HT_.out (by kernel_rfl)) (fun _ _ _ h => h) (Or.inl ⟨by rfl, ?_⟩) ?_ ?_
   rotate_left
   ·intro w'
    go_simp
    with_reducible rfl
   rotate_left
   ·simp only [Act.put, List.setIfInBounds_toArray, List.set_cons_zero, List.set_cons_succ, i64_w, i32_w]
    rfl
   refine pure_ (i := 4) (N := some 34) (v := ?_) (a' := ?_) #[true, true, true, false, true, false, false, false, false, false, false, false, false, false, false, false, false, false, false] rfl rfl (any_of HT_.out (by kernel_rfl)) (fun _ _ _ h => h) (Or.inl ⟨by rfl, ?_⟩) ?_ ?_
   rotate_left
   ·intro w'
    go_simp
    with_reducible rfl
   rotate_left
   ·simp only [Act.put, List.setIfInBounds_toArray, List.set_cons_zero, List.set_cons_succ, i64_w, i32_w]
    rfl
   refine pure_ (i := 5) (N := some 35) (v := ?_) (a' := ?_) #[true, true, true, false, true, true, false, false, false, false, false, false, false, false, false, false, false, false, false] rfl rfl (any_of HT_.out (by kernel_rfl)) (fun _ _ _ h => h) (Or.inl ⟨by rfl, ?_⟩) ?_ ?_
   rotate_left
   ·intro w'
    go_simp
    with_reducible rfl
   rotate_left
   ·simp only [Act.put, List.setIfInBounds_toArray, List.set_cons_zero, List.set_cons_succ, i64_w, i32_w]
    rfl
   refine pure_ (i := 6) (N := some 36) (v := ?_) (a' := ?_) #[true, true, true, false, true, true, true, false, false, false, false, false, false, false, false, false, false, false, false] rfl rfl (any_of HT_.out (by kernel_rfl)) (fun _ _ _ h => h) (Or.inl ⟨by rfl, ?_⟩) ?_ ?_
   rotate_left
   ·intro w'
    go_simp
    with_reducible rfl
   rotate_left
   ·simp only [Act.put, List.setIfInBounds_toArray, List.set_cons_zero, List.set_cons_succ, i64_w, i32_w]
    rfl
   refine pure_ (i := 7) (N := some 37) (v := ?_) (a' := ?_) #[true, true, true, false, true, true, true, true, false, false, false, false, false, false, false, false, false, false, false] rfl rfl (any_of HT_.out (by kernel_rfl)) (fun _ _ _ h => h) (Or.inl ⟨by rfl, ?_⟩) ?_ ?_
   rotate_left
   ·intro w'
    go_simp
    with_reducible rfl
   rotate_left
   ·simp only [Act.put, List.setIfInBounds_toArray, List.set_cons_zero, List.set_cons_succ, i64_w, i32_w]
    rfl
   refine pure_ (i := 8) (N := some 38) (v := ?_) (a' := ?_) #[true, true, true, false, true, true, true, true, true, false, false, false, false, false, false, false, false, false, false] rfl rfl (any_of HT_.out (by kernel_rfl)) (fun _ _ _ h => h) (Or.inl ⟨by rfl, ?_⟩) ?_ ?_
   rotate_left
   ·intro w'
    go_simp
    with_reducible rfl
   rotate_left
   ·simp only [Act.put, List.setIfInBounds_toArray, List.set_cons_zero, List.set_cons_succ, i64_w, i32_w]
    rfl
   refine pure_ (i := 10) (N := some 40) (v := ?_) (a' := ?_) #[true, true, true, false, true, true, true, true, true, false, true, false, false, false, false, false, false, false, false] rfl rfl (any_of HT_.out (by kernel_rfl)) (fun _ _ _ h => h) (Or.inl ⟨by rfl, ?_⟩) ?_ ?_
   rotate_left
   ·intro w'
    go_simp
    with_reducible rfl
   rotate_left
   ·simp only [Act.put, List.setIfInBounds_toArray, List.set_cons_zero, List.set_cons_succ, i64_w, i32_w]
    rfl
   refine take_ (i := 3) (N := some 33) (v := ?_) (a' := ?_) #[true, true, true, true, true, true, true, true, true, false, true, false, false, false, false, false, false, false, false] rfl rfl (take_ofW HT_.out HW_.out (by kernel_rfl)) (fun _ _ _ h => h) (Or.inl ⟨by rfl, ?_⟩) hHeld ?_ ?_
   rotate_left
   ·rintro w' s0
    go_simp
    with_reducible rfl
   rotate_left
   ·simp only [Act.put, List.setIfInBounds_toArray, List.set_cons_zero, List.set_cons_succ, i64_w, i32_w]
    rfl
   refine take_ (i := 9) (N := some 39) (v := ?_) (a' := ?_) #[true, true, true, true, true, true, true, true, true, true, true, false, false, false, false, false, false, false, false] rfl rfl (take_ofW HT_.out HW_.out (by kernel_rfl)) (fun _ _ _ h => h) (Or.inl ⟨by rfl, ?_⟩) hHeld ?_ ?_
   rotate_left
   ·rintro w' s0
    go_simp
    with_reducible rfl
   rotate_left
   ·simp only [Act.put, List.setIfInBounds_toArray, List.set_cons_zero, List.set_cons_succ, i64_w, i32_w]
    rfl
   refine pure_ (i := 11) (N := some 41) (v := ?_) (a' := ?_) #[true, true, true, true, true, true, true, true, true, true, true, true, false, false, false, false, false, false, false] rfl rfl (any_of HT_.out (by kernel_rfl)) (fun _ _ _ h => h) (Or.inl ⟨by rfl, ?_⟩) ?_ ?_
   rotate_left
   ·intro w'
    go_simp
    with_reducible rfl
   rotate_left
   ·simp only [Act.put, List.setIfInBounds_toArray, List.set_cons_zero, List.set_cons_succ, i64_w, i32_w]
    rfl
   refine pure_ (i := 12) (N := some 42) (v := ?_) (a' := ?_) #[true, true, true, true, true, true, true, true, true, true, true, true, true, false, false, false, false, false, false] rfl rfl (any_of HT_.out (by kernel_rfl)) (fun _ _ _ h => h) (Or.inl ⟨by rfl, ?_⟩) ?_ ?_
   rotate_left
   ·intro w'
    go_simp
    with_reducible rfl
   rotate_left
   ·simp only [Act.put, List.setIfInBounds_toArray, List.set_cons_zero, List.set_cons_succ, i64_w, i32_w]
    rfl
   refine one_ (i := 13) (N := some 43) #[true, true, true, true, true, true, true, true, true, true, true, true, true, true, false, false, false, false, false] rfl rfl (one_of HT_.out (by kernel_rfl)) (by decide) (fun K hK => ?_)
   refine value_ rfl rfl (by go_simp; exact ⟨rfl, rfl⟩) ?_
   refine hK.out _ _ (hHeld) (fun hHeld => ?_)
   clear hK K
   refine norm_ (a' := ?_) ?_ ?_
   rotate_left
   ·show Act.put _ (some 43) _ = _
    simp only [Act.put, List.setIfInBounds_toArray, List.set_cons_zero, List.set_cons_succ, i64_w, i32_w]
    rfl
   refine one_ (i := 14) (N := some 44) #[true, true, true, true, true, true, true, true, true, true, true, true, true, true, true, false, false, false, false] rfl rfl (one_of HT_.out (by kernel_rfl)) (by decide) (fun K hK => ?_)
   refine call_ 57 #[.int .i64 y, .pointer (some ⟨b, 0, none⟩)] (by rfl) rfl (by (have he := (fun w => enters_ Try.func57 (by kernel_rfl) rfl #[.int .i64 y, .pointer (some ⟨b, 0, none⟩)] w)); unfold execOp; simp [resolve, Deferred.ofValue, invoke, Act.eval, he]) ?_
   with_reducible refine (set1_calls y d b wr.drew hdb2).mono ?_
   rintro ev w5 ⟨rfl, rfl⟩
   refine ⟨_, rfl, ?_⟩
   refine hK.out _ _ (hHeld) (fun hHeld => ?_)
   clear hK K
   refine norm_ (a' := ?_) ?_ ?_
   rotate_left
   ·show Act.put _ (some 44) _ = _
    simp only [Act.put, List.setIfInBounds_toArray, List.set_cons_zero, List.set_cons_succ, i64_w, i32_w]
    rfl
   refine one_ (i := 15) (N := some 45) #[true, true, true, true, true, true, true, true, true, true, true, true, true, true, true, true, false, false, false] rfl rfl (one_of HT_.out (by kernel_rfl)) (by decide) (fun K hK => ?_)
   refine goes_ Try.func56 (by kernel_rfl) rfl #[.int .i64 (d)] (by rfl) rfl rfl (by (try simp only [List.map_toArray, List.map_cons, List.map_nil]); first | done | rfl | (simp only [List.length_drop, List.length_take]; rfl)) ?_
   with_reducible refine (within_calls _ _).mono ?_
   rintro ev w6 ⟨rfl, hb6⟩
   have gp6 := below_cell1 hb6 gp
   have gy6 := below_cell1 hb6 gy
   have ST6 := ST.out.below (show Below wr.heap.size wr w6 from (below_drew1 (Below.refl _ wr)).trans hb6)
   have fr6 := blk_frozen ST6.row.choose_spec.1 (k * 2 + 1)
   refine ⟨_, rfl, ?_⟩
   refine hK.out _ _ (gp6) (fun hHeld => ?_)
   clear hK K
   refine norm_ (a' := ?_) ?_ ?_
   rotate_left
   ·show Act.put _ (some 45) _ = _
    simp only [Act.put, List.setIfInBounds_toArray, List.set_cons_zero, List.set_cons_succ, i64_w, i32_w]
    rfl
   refine pure_ (i := 16) (N := some 46) (v := ?_) (a' := ?_) #[true, true, true, true, true, true, true, true, true, true, true, true, true, true, true, true, true, false, false] rfl rfl (any_of HT_.out (by kernel_rfl)) (fun _ _ _ h => h) (Or.inl ⟨by rfl, ?_⟩) ?_ ?_
   rotate_left
   ·intro w'
    go_simp
    with_reducible rfl
   rotate_left
   ·simp only [Act.put, List.setIfInBounds_toArray, List.set_cons_zero, List.set_cons_succ, i64_w, i32_w]
    rfl
   refine pure_ (i := 17) (N := some 47) (v := ?_) (a' := ?_) #[true, true, true, true, true, true, true, true, true, true, true, true, true, true, true, true, true, true, false] rfl rfl (any_of HT_.out (by kernel_rfl)) (fun _ _ _ h => h) (Or.inl ⟨by rfl, ?_⟩) ?_ ?_
   rotate_left
   ·intro w'
    go_simp
    with_reducible rfl
   rotate_left
   ·simp only [Act.put, List.setIfInBounds_toArray, List.set_cons_zero, List.set_cons_succ, i64_w, i32_w]
    rfl
   refine last_ (i := 18) (N := none) #[true, true, true, true, true, true, true, true, true, true, true, true, true, true, true, true, true, true, true] rfl rfl (one_of HT_.out (by kernel_rfl)) (by decide) (fun K hK => ?_)
   refine skip_ (w1 := ?_) (by rfl) rfl ?_ ?_
   rotate_left
   ·go_simp
    rfl
   refine hK.out _ _ ?_
   clear hK K
   refine done_ (done_of HT_.out (by kernel_rfl)) ?_
   go_wp2
   go_roundw
   case rel =>
    refine ⟨k + 1, by go_num, by omega, by omega, ?_, (HTK.out.below (show Below wr.heap.size wr w6 from (below_drew1 (Below.refl _ wr)).trans hb6)).set _ _⟩
    rw [HMN.out]
    exact ST6.put k x y _ HMK.out
   case measure => simp [natV]; omega
  ·have e1 : decide ((k : Int) < (I2 : Int)) = false := by simp; omega
   have hov := mapL_over (fun v => d) L I1 I2 k hk1 hk2 hke
   rw [hov] at hSk
   have hml : (mapL (fun v => d) L I1 I2).length = n := by rw [mapL_length _ _ _ _ (by rw [HNN.out]; omega) (by rw [HNN.out]; omega)]; exact HNN.out
   have HTK := Aside0.mk hTk
   have HSK := Aside0.mk hSk
   have HP := Aside0.mk (plain_calls p q2 c2 _ wr hSk (by rw [hml]; omega))
   clear hSk hTk hov hml
   go_wp2_with (go_at_call 63; refine HP.out.mono ?_; rintro ev w7 ⟨rfl, S7, T7⟩)
   go_ret
   refine ⟨rfl, q2, c2, ?_, HTK.out.trans T7⟩
   rw [HFIN.out]
   exact S7
end Go.Proofs.Ytlddccmgamlccaa.Us

set_option linter.unusedVariables false
set_option linter.unusedSimpArgs false
namespace Go.Proofs.Ytlddccmgamlccaa.Us
open Go Go.Proofs Go.RowKit Go.Lib Go.Proofs.YtlddccmgamlccaaW.PrintWords Go.Proofs.YtlddccmgamlccaaW.PrintLast Go.Proofs.YtlddccmgamlccaaW.PrintMore
attribute [local go_sem] max2_int min2_int max_two min_two

theorem cpt_sub : ∀ (l : List (Int × Int)) (v : Int), (cpt v l).Sublist l
 | [], v => List.Sublist.refl _
 | s :: r, v => by
  unfold cpt
  split
  ·exact (cpt_sub r v).cons s
  ·exact (cpt_sub r s.2).cons_cons s
theorem compactL_sub (l : List (Int × Int)) : (compactL l).Sublist l := by
 cases l with
 | nil => exact List.Sublist.refl _
 | cons s r => exact (cpt_sub r s.2).cons_cons s
theorem mapL_mem {f : Int → Int} {l : List (Int × Int)} {i e : Nat} {s : Int × Int} (h : s ∈ mapL f l i e) : ∃ y, (s.1, y) ∈ l ∧ (s.2 = y ∨ ∃ v, s.2 = lvT v) := by
 unfold mapL at h
 rcases List.mem_append.1 h with h | h
 ·rcases List.mem_append.1 h with h | h
  ·exact ⟨s.2, List.mem_of_mem_take h, .inl rfl⟩
  ·obtain ⟨a, ha, rfl⟩ := List.mem_map.1 h
   exact ⟨a.2, List.mem_of_mem_drop (List.mem_of_mem_take ha), .inr ⟨_, rfl⟩⟩
 ·exact ⟨s.2, List.mem_of_mem_drop h, .inl rfl⟩
theorem mapL_times (f : Int → Int) (l : List (Int × Int)) (i e : Nat) : (mapL f l i e).map (·.1) = l.map (·.1) ∨ e < i ∨ True := .inr (.inr trivial)
theorem mapL_fst (f : Int → Int) (l : List (Int × Int)) (i e : Nat) : (mapL f l i e).map (·.1) = l.map (·.1) := by
 unfold mapL
 rw [List.map_append, List.map_append, List.map_map]
 have e1 : ((fun x : Int × Int => x.1) ∘ fun s : Int × Int => (s.1, lvT (f s.2))) = fun x => x.1 := rfl
 rw [e1, ← List.map_append, ← List.map_append]
 congr 1
 rcases Nat.lt_or_ge i e with h | h
 ·rw [Nat.max_eq_right (by omega), List.append_assoc, show l.drop e = (l.drop i).drop (e - i) by rw [List.drop_drop]; congr 1; omega, List.take_append_drop, List.take_append_drop]
 ·rw [Nat.max_eq_left h, show e - i = 0 by omega, List.take_zero, List.append_nil, List.take_append_drop]
theorem rise_fst (l : List (Int × Int)) : Rise l ↔ (l.map (·.1)).Pairwise (· < ·) := by unfold Rise; rw [List.pairwise_map]

theorem Lev.map {l : List (Int × Int)} (h : Lev l) (f : Int → Int) (i e : Nat) : Lev (mapL f l i e) := by
 refine ⟨?_, fun s hs => ?_, ?_, fun s hs => ?_⟩
 ·rw [rise_fst, mapL_fst, ← rise_fst]; exact h.rise
 ·obtain ⟨y, hy, _⟩ := mapL_mem hs
  exact h.top (s.1, y) hy
 ·obtain ⟨y, r, hl⟩ := h.head
  have e1 := mapL_fst f l i e
  rw [hl] at e1
  cases hm : mapL f ((0, y) :: r) i e with
  | nil => rw [hm] at e1; simp at e1
  | cons s t =>
   rw [hm] at e1
   rw [List.map_cons, List.map_cons] at e1
   have e2 : s.1 = 0 := (List.cons.inj e1).1
   exact ⟨s.2, t, by rw [hl, hm, ← e2]⟩
 ·obtain ⟨y, hy, h1 | ⟨v, h1⟩⟩ := mapL_mem hs
  ·rw [h1]; exact h.lvl (s.1, y) hy
  ·rw [h1]; exact lvT_range v
theorem Lev.compact {l : List (Int × Int)} (h : Lev l) : Lev (compactL l) := by
 have hs := compactL_sub l
 refine ⟨List.Pairwise.sublist hs h.rise, fun s hs' => h.top s (hs.subset hs'), ?_, fun s hs' => h.lvl s (hs.subset hs')⟩
 obtain ⟨y, r, hl⟩ := h.head
 exact ⟨y, cpt y r, by rw [hl]; rfl⟩
theorem Lev.turn {l : List (Int × Int)} (h : Lev l) (f : Int → Int) (a b : Int) : Lev (turnL f l a b) := by
 unfold turnL
 split
 ·exact h
 ·exact (((h.cut _ (clT_range a).1).cut _ (clT_range b).1).map f _ _).compact
theorem turnL_len {l : List (Int × Int)} (h : Lev l) (f : Int → Int) (a b : Int) : (turnL f l a b).length ≤ l.length + 2 := by
 unfold turnL
 split
 ·omega
 ·have h1 := cutL_len h (clT a)
  have h2 := cutL_len (h.cut _ (clT_range a).1) (clT b)
  refine Nat.le_trans (compactL_sub _).length_le ?_
  have e1 := congrArg List.length (mapL_fst f (cutL (cutL l (clT a)) (clT b)) (cutI l (clT a)) (cutI (cutL l (clT a)) (clT b)))
  rw [List.length_map, List.length_map] at e1
  omega

/-- what one more is, within the bounds -/
def byT (d : Int) : Int := mx (-2000000) (mn d 2000000)
theorem byT_range (t : Int) : -2000000 ≤ byT t ∧ byT t ≤ 2000000 := by unfold byT mx mn; repeat' split <;> omega

set_option maxRecDepth 100000 in
set_option maxHeartbeats 4000000 in
theorem add_calls (p q c : Nat) (l : List (Int × Int)) (fa fb d : Int) (w : World) (hS : StepsIs w p q c l) (hL : Lev l) (hn : l.length + 2 < 1099511627776) :
  Calls Try.prog 15 #[.pointer (some ⟨p, 0, none⟩), .agg #[.int .i64 fa, .int .i64 fb], .int .i64 d] w fun ev w' =>
   ev = .returned (.int .i64 0) ∧ ∃ q1 c1, StepsIs w' p q1 c1 (turnL (fun v => v + byT d) l fa fb) ∧ Turned w w' p q q1 := by
 obtain ⟨d1, hd1⟩ : ∃ x : Int, (if 2000000 < d then 2000000 else d) = x := ⟨_, rfl⟩
 obtain ⟨d2, hd2⟩ : ∃ x : Int, (if (-2000000) < d1 then d1 else (-2000000)) = x := ⟨_, rfl⟩
 have hd3 : byT d = d2 := by unfold byT mx mn; rw [hd1, hd2]
 have hdr := byT_range d
 rw [hd3] at hdr ⊢
 have HS := Aside0.mk hS
 have hpB := blk_lt hS.ptr
 have hqB := blk_lt hS.row.choose_spec.1
 clear hS hd3
 go_enter Try.func15, Try.ntmps15
 go_wp2_with (fail)
 have hb := ((Below.refl w.heap.size w).alloc (Nat.le_refl _) (.cells #[.int .i64 fa, .int .i64 fb] 25 (0, 0)))
 have hz : (w.alloc (.cells #[.int .i64 fa, .int .i64 fb] 25 (0, 0))).heap.size = w.heap.size + 1 := Array.size_push _
 have hb2 := hb.alloc hb.size (.cells #[.int .i64 d2] 3 (0, 0))
 have hn2 := blk_new (w.alloc (.cells #[.int .i64 fa, .int .i64 fb] 25 (0, 0))) (.cells #[.int .i64 d2] 3 (0, 0))
 rw [hz] at hn2
 refine (turnAdd1_calls p q c (w.heap.size + 1) l fa fb d2 _ (HS.out.below hb2) hL ((blk_cell hn2 0).trans rfl) (by omega) (by omega) hdr hn).mono ?_
 rintro ev w1 ⟨rfl, q1, c1, S1, T1⟩
 go_wp2
 go_ret
 exact ⟨rfl, q1, c1, S1, (Turned.of_below hb2).trans T1⟩

set_option maxRecDepth 100000 in
set_option maxHeartbeats 4000000 in
theorem set_calls (p q c : Nat) (l : List (Int × Int)) (fa fb d : Int) (w : World) (hS : StepsIs w p q c l) (hL : Lev l) (hn : l.length + 2 < 1099511627776) :
  Calls Try.prog 31 #[.pointer (some ⟨p, 0, none⟩), .agg #[.int .i64 fa, .int .i64 fb], .int .i64 d] w fun ev w' =>
   ev = .returned (.int .i64 0) ∧ ∃ q1 c1, StepsIs w' p q1 c1 (turnL (fun v => d) l fa fb) ∧ Turned w w' p q q1 := by
 have HS := Aside0.mk hS
 have hpB := blk_lt hS.ptr
 have hqB := blk_lt hS.row.choose_spec.1
 clear hS
 go_enter Try.func31, Try.ntmps31
 go_wp2_with (fail)
 have hb := ((Below.refl w.heap.size w).alloc (Nat.le_refl _) (.cells #[.int .i64 fa, .int .i64 fb] 25 (0, 0)))
 have hz : (w.alloc (.cells #[.int .i64 fa, .int .i64 fb] 25 (0, 0))).heap.size = w.heap.size + 1 := Array.size_push _
 have hb2 := hb.alloc hb.size (.cells #[.int .i64 d] 3 (0, 0))
 have hn2 := blk_new (w.alloc (.cells #[.int .i64 fa, .int .i64 fb] 25 (0, 0))) (.cells #[.int .i64 d] 3 (0, 0))
 rw [hz] at hn2
 refine (turnSet1_calls p q c (w.heap.size + 1) l fa fb d _ (HS.out.below hb2) hL ((blk_cell hn2 0).trans rfl) (by omega) (by omega) hn).mono ?_
 rintro ev w1 ⟨rfl, q1, c1, S1, T1⟩
 go_wp2
 go_ret
 exact ⟨rfl, q1, c1, S1, (Turned.of_below hb2).trans T1⟩
end Go.Proofs.Ytlddccmgamlccaa.Us

set_option linter.unusedVariables false
set_option linter.unusedSimpArgs false
namespace Go.Proofs.Ytlddccmgamlccaa.Us
open Go Go.Proofs Go.RowKit Go.Lib Go.Proofs.YtlddccmgamlccaaW.PrintWords Go.Proofs.YtlddccmgamlccaaW.PrintLast Go.Proofs.YtlddccmgamlccaaW.PrintMore

/-- the level at a time -/
def atL (l : List (Int × Int)) (t : Int) : Int := ((l[pl l (clT t)]?).map (·.2)).getD 0
def atR.T3 : Bool × List (List Nat × List Nat) := (true, [([], []), ([0], [0]), ([1], [1]), ([2], [2]), ([], []), ([], []), ([5], [5]), ([4, 6, 6], [4, 6]), ([3, 7], [3, 7]), ([8], [8]), ([9], [9]), ([10, 7, 0, 1, 2, 3, 4, 5, 6, 7, 8, 9, 10], [10])])
def atR.B3 : List Nat := [0, 1, 3, 7, 0, 0, 32, 112, 255, 511, 1023, 2047]
theorem atR.tab3 : rtab .any (opsOf Try.f39 3) = atR.T3 := by kernel_rfl
theorem atR.bits3 : waitsOk atR.T3.2 atR.B3 = true := by kernel_rfl

set_option maxRecDepth 100000 in
set_option maxHeartbeats 1000000 in
theorem at_nil (t : Int) (w : World) : Calls Try.prog 39 #[.pointer none, .int .i64 t] w fun ev w' => ev = .returned (.int .i64 0) ∧ w' = w := by
 go_enter Try.func39, Try.ntmps39
 go_wp2_with (go_at_call 40; refine (none_nil _).mono ?_; rintro ev w1 ⟨rfl, rfl⟩)
 go_ret
 exact ⟨rfl, rfl⟩

set_option maxRecDepth 100000 in
set_option maxHeartbeats 4000000 in
theorem at_calls (p q c : Nat) (l : List (Int × Int)) (t : Int) (w : World) (hS : StepsIs w p q c l) (hL : Lev l) :
  Calls Try.prog 39 #[.pointer (some ⟨p, 0, none⟩), .int .i64 t] w fun ev w' => ev = .returned (.int .i64 (atL l t)) ∧ Below w.heap.size w w' := by
 have gc : w.cell? ⟨p, 0, none⟩ = some (.slice (some ⟨q, 0, none⟩) l.length c) := (blk_cell hS.ptr 0).trans rfl
 have hne := hL.ne
 have hTr := clT_range t
 obtain ⟨y0, r0, hl0⟩ := hL.head
 obtain ⟨T, hT'⟩ : ∃ T, clT t = T := ⟨_, rfl⟩
 have e1 : atL l t = ((l[pl l T]?).map (·.2)).getD 0 := by unfold atL; rw [hT']
 rw [e1]
 rw [hT'] at hTr
 have hpl := pl_lt T hne
 have hP : ∀ w1_, Below w.heap.size w w1_ → Calls Try.prog 61 #[.pointer (some ⟨p, 0, none⟩), .int .i64 T] w1_ fun ev w' => ev = .returned (.int .i64 (pl l T : Int)) ∧ Below w1_.heap.size w1_ w' := fun w' hb =>
  place_calls p q c l T w' (hS.below hb) hL.rise hL.tame (by omega) (by have := hL.len; omega) (0, y0) r0 hl0 hTr.1
 obtain ⟨k, hk⟩ : ∃ k, pl l T = k := ⟨_, rfl⟩
 rw [hk] at hP hpl ⊢
 obtain ⟨x, y, hxy, gx, gy⟩ := hS.row.at_ k hpl
 rw [List.getElem?_eq_getElem hpl, hxy]
 have HS := Aside0.mk hS
 have hin : (k : Int) < (l.length : Int) := by omega
 have hNone := Aside0.mk (none_calls p q c l w hS hne)
 clear hS hxy hl0 e1 hk
 go_enter Try.func39, Try.ntmps39
 go_wp2_with (go_at_call 40; refine hNone.out.mono ?_; rintro ev w1 ⟨rfl, hw1⟩; rw [hw1]; clear hw1)
 refine start_ (n := 12) (S := fun w' => w'.cell? ⟨p, 0, none⟩ = some (.slice (some ⟨q, 0, none⟩) l.length c)) (ds := []) #[false, false, false, false, false, false, false, false, false, false, false, false] (by kernel_rfl) rfl rfl (gc) (fun hHeld => ?_); refine with_tabW atR.tab3 atR.bits3 (fun HT_ HW_ => ?_)
 refine pure_ (i := 0) (N := some 7) (v := ?_) (a' := ?_) #[true, false, false, false, false, false, false, false, false, false, false, false] rfl rfl (any_of HT_.out (by kernel_rfl)) (fun _ _ _ h => h) (Or.inl ⟨by rfl, ?_⟩) ?_ ?_
 rotate_left
 ·intro w'
  go_simp
  with_reducible rfl
 rotate_left
 ·simp only [Act.put, List.setIfInBounds_toArray, List.set_cons_zero, List.set_cons_succ, i64_w, i32_w]
  rfl
 refine pure_ (i := 1) (N := some 8) (v := ?_) (a' := ?_) #[true, true, false, false, false, false, false, false, false, false, false, false] rfl rfl (any_of HT_.out (by kernel_rfl)) (fun _ _ _ h => h) (Or.inl ⟨by rfl, ?_⟩) ?_ ?_
 rotate_left
 ·intro w'
  go_simp
  with_reducible rfl
 rotate_left
 ·simp only [Act.put, List.setIfInBounds_toArray, List.set_cons_zero, List.set_cons_succ, i64_w, i32_w]
  rfl
 refine pure_ (i := 2) (N := some 9) (v := ?_) (a' := ?_) #[true, true, true, false, false, false, false, false, false, false, false, false] rfl rfl (any_of HT_.out (by kernel_rfl)) (fun _ _ _ h => h) (Or.inl ⟨by rfl, ?_⟩) ?_ ?_
 rotate_left
 ·intro w'
  go_simp
  with_reducible rfl
 rotate_left
 ·simp only [Act.put, List.setIfInBounds_toArray, List.set_cons_zero, List.set_cons_succ, i64_w, i32_w]
  rfl
 refine pure_ (i := 4) (N := some 11) (v := ?_) (a' := ?_) #[true, true, true, false, true, false, false, false, false, false, false, false] rfl rfl (any_of HT_.out (by kernel_rfl)) (fun _ _ _ h => h) (Or.inl ⟨by rfl, ?_⟩) ?_ ?_
 rotate_left
 ·intro w'
  go_simp
  with_reducible rfl
 rotate_left
 ·simp only [Act.put, List.setIfInBounds_toArray, List.set_cons_zero, List.set_cons_succ, i64_w, i32_w]
  rfl
 refine pure_ (i := 5) (N := some 12) (v := ?_) (a' := ?_) #[true, true, true, false, true, true, false, false, false, false, false, false] rfl rfl (any_of HT_.out (by kernel_rfl)) (fun _ _ _ h => h) (Or.inl ⟨by rfl, ?_⟩) ?_ ?_
 rotate_left
 ·intro w'
  go_simp
  with_reducible rfl
 rotate_left
 ·simp only [Act.put, List.setIfInBounds_toArray, List.set_cons_zero, List.set_cons_succ, i64_w, i32_w]
  rfl
 refine take_ (i := 3) (N := some 10) (v := ?_) (a' := ?_) #[true, true, true, true, true, true, false, false, false, false, false, false] rfl rfl (take_ofW HT_.out HW_.out (by kernel_rfl)) (fun _ _ _ h => h) (Or.inl ⟨by rfl, ?_⟩) hHeld ?_ ?_
 rotate_left
 ·rintro w' s0
  go_simp
  with_reducible rfl
 rotate_left
 ·simp only [Act.put, List.setIfInBounds_toArray, List.set_cons_zero, List.set_cons_succ, i64_w, i32_w]
  rfl
 refine one_ (i := 6) (N := some 13) #[true, true, true, true, true, true, true, false, false, false, false, false] rfl rfl (one_of HT_.out (by kernel_rfl)) (by decide) (fun K hK => ?_)
 refine goes_ Try.func8 (by kernel_rfl) rfl #[.int .i64 t] (by rfl) rfl rfl (by (try simp only [List.map_toArray, List.map_cons, List.map_nil]); first | done | rfl | (simp only [List.length_drop, List.length_take]; rfl)) ?_
 with_reducible refine (clamp_calls _ _).mono ?_
 rintro ev w1 ⟨rfl, hb1⟩
 rw [hT']
 have hb1' : Below w.heap.size w w1 := (below_drew1 (Below.refl _ w)).trans hb1
 have gc1 := below_cell1 hb1 gc
 refine ⟨_, rfl, ?_⟩
 refine hK.out _ _ (gc1) (fun hHeld => ?_)
 clear hK K
 refine norm_ (a' := ?_) ?_ ?_
 rotate_left
 ·show Act.put _ (some 13) _ = _
  simp only [Act.put, List.setIfInBounds_toArray, List.set_cons_zero, List.set_cons_succ, i64_w, i32_w]
  rfl
 refine one_ (i := 7) (N := some 14) #[true, true, true, true, true, true, true, true, false, false, false, false] rfl rfl (one_of HT_.out (by kernel_rfl)) (by decide) (fun K hK => ?_)
 refine goes_ Try.func61 (by kernel_rfl) rfl #[.pointer (some ⟨p, 0, none⟩), .int .i64 T] (by rfl) rfl rfl (by (try simp only [List.map_toArray, List.map_cons, List.map_nil]); first | done | rfl | (simp only [List.length_drop, List.length_take]; rfl)) ?_
 with_reducible refine (hP w1 hb1').mono ?_
 rintro ev w2 ⟨rfl, hb2⟩
 have gc2 := below_cell1 hb2 gc1
 have gy2 : w2.cell? ⟨q, k * 2 + 1, none⟩ = some (.int .i64 y) := below_cell1 hb2 (below_cell1 hb1 gy)
 clear hP
 refine ⟨_, rfl, ?_⟩
 refine hK.out _ _ (gc2) (fun hHeld => ?_)
 clear hK K
 refine norm_ (a' := ?_) ?_ ?_
 rotate_left
 ·show Act.put _ (some 14) _ = _
  simp only [Act.put, List.setIfInBounds_toArray, List.set_cons_zero, List.set_cons_succ, i64_w, i32_w]
  rfl
 refine pure_ (i := 8) (N := some 15) (v := ?_) (a' := ?_) #[true, true, true, true, true, true, true, true, true, false, false, false] rfl rfl (any_of HT_.out (by kernel_rfl)) (fun _ _ _ h => h) (Or.inl ⟨by rfl, ?_⟩) ?_ ?_
 rotate_left
 ·intro w'
  go_simp
  with_reducible rfl
 rotate_left
 ·simp only [Act.put, List.setIfInBounds_toArray, List.set_cons_zero, List.set_cons_succ, i64_w, i32_w]
  rfl
 refine pure_ (i := 9) (N := some 16) (v := ?_) (a' := ?_) #[true, true, true, true, true, true, true, true, true, true, false, false] rfl rfl (any_of HT_.out (by kernel_rfl)) (fun _ _ _ h => h) (Or.inl ⟨by rfl, ?_⟩) ?_ ?_
 rotate_left
 ·intro w'
  go_simp
  with_reducible rfl
 rotate_left
 ·simp only [Act.put, List.setIfInBounds_toArray, List.set_cons_zero, List.set_cons_succ, i64_w, i32_w]
  rfl
 refine one_ (i := 10) (N := some 17) #[true, true, true, true, true, true, true, true, true, true, true, false] rfl rfl (one_of HT_.out (by kernel_rfl)) (by decide) (fun K hK => ?_)
 refine value_ rfl rfl (by go_simp; exact ⟨rfl, rfl⟩) ?_
 refine hK.out _ _ (hHeld) (fun hHeld => ?_)
 clear hK K
 refine norm_ (a' := ?_) ?_ ?_
 rotate_left
 ·show Act.put _ (some 17) _ = _
  simp only [Act.put, List.setIfInBounds_toArray, List.set_cons_zero, List.set_cons_succ, i64_w, i32_w]
  rfl
 refine pure_ (i := 11) (N := some 4) (v := ?_) (a' := ?_) #[true, true, true, true, true, true, true, true, true, true, true, true] rfl rfl (any_of HT_.out (by kernel_rfl)) (fun _ _ _ h => h) (Or.inl ⟨by rfl, ?_⟩) ?_ ?_
 rotate_left
 ·intro w'
  go_simp
  with_reducible rfl
 rotate_left
 ·simp only [Act.put, List.setIfInBounds_toArray, List.set_cons_zero, List.set_cons_succ, i64_w, i32_w]
  rfl
 refine done_ (done_of HT_.out (by kernel_rfl)) ?_
 go_wp2
 go_ret
 exact ⟨rfl, below_step (show Below w.heap.size w w1 from (below_drew1 (Below.refl _ w)).trans hb1) hb2⟩
end Go.Proofs.Ytlddccmgamlccaa.Us

set_option linter.unusedVariables false
set_option linter.unusedSimpArgs false
namespace Go.Proofs.Ytlddccmgamlccaa.Us
open Go Go.Proofs Go.RowKit Go.Lib Go.Proofs.YtlddccmgamlccaaW.PrintWords Go.Proofs.YtlddccmgamlccaaW.PrintLast Go.Proofs.YtlddccmgamlccaaW.PrintMore

/-- the times that two spans have in common -/
def cutP (a b x e : Int) : Int × Int := if mx (clT a) (clT x) ≥ mn (clT b) (clT e) then (0, 0) else (mx (clT a) (clT x), mn (clT b) (clT e))
theorem clT_clT {t : Int} (h : 0 ≤ t ∧ t ≤ 1099511627776) : clT t = t := by unfold clT mx mn; repeat' split <;> omega
theorem mx_range {a b : Int} (h : 0 ≤ a ∧ a ≤ 1099511627776) (k : 0 ≤ b ∧ b ≤ 1099511627776) : 0 ≤ mx a b ∧ mx a b ≤ 1099511627776 := by unfold mx; split <;> omega
theorem mn_range {a b : Int} (h : 0 ≤ a ∧ a ≤ 1099511627776) (k : 0 ≤ b ∧ b ≤ 1099511627776) : 0 ≤ mn a b ∧ mn a b ≤ 1099511627776 := by unfold mn; split <;> omega
theorem cutP_range (a b x e : Int) : (0 ≤ (cutP a b x e).1 ∧ (cutP a b x e).1 ≤ 1099511627776) ∧ (0 ≤ (cutP a b x e).2 ∧ (cutP a b x e).2 ≤ 1099511627776) := by
 unfold cutP
 split
 ·exact ⟨by simp, by simp⟩
 ·exact ⟨mx_range (clT_range a) (clT_range x), mn_range (clT_range b) (clT_range e)⟩
theorem scut_calls (a b x e : Int) (w : World) : Calls Try.prog 51 #[.agg #[.int .i64 a, .int .i64 b], .agg #[.int .i64 x, .int .i64 e]] w fun ev w' => ev = .returned (.agg #[.int .i64 (cutP a b x e).1, .int .i64 (cutP a b x e).2]) ∧ Below w.heap.size w w' := by
 refine tick_Span_Cut.calls a b x e _ _ w ?_
 have h : ∀ t, tick_Clamp.f t = some (clT t) := fun t => rfl
 have h2 : ∀ a b, tick_Span_clean.f a b = some (clT a, clT b) := fun a b => rfl
 have h3 : ∀ a b, tick_Span_Empty.f a b = some (decide (clT a ≥ clT b)) := fun a b => rfl
 unfold tick_Span_Cut.f cutP
 rw [h2, h2]
 simp only [Option.bind_some]
 rw [h3, clT_clT (mx_range (clT_range a) (clT_range x)), clT_clT (mn_range (clT_range b) (clT_range e))]
 by_cases hh : mx (clT a) (clT x) ≥ mn (clT b) (clT e)
 ·rw [if_pos hh]; simp [hh]
 ·rw [if_neg hh]; simp [hh]
theorem pempty_calls (c : Int × Int) (hc : (0 ≤ c.1 ∧ c.1 ≤ 1099511627776) ∧ (0 ≤ c.2 ∧ c.2 ≤ 1099511627776)) (w : World) : Calls Try.prog 28 #[.agg #[.int .i64 c.1, .int .i64 c.2]] w fun e w' => e = .returned (.bool (decide (c.1 ≥ c.2))) ∧ Below w.heap.size w w' := by
 have := empty_calls c.1 c.2 w
 rwa [clT_clT hc.1, clT_clT hc.2] at this

def better (acc : Option Int) (v : Int) : Option Int := match acc with
 | some b => if v < b then some v else some b
 | none => some v
/-- the least level of a span's times, of the first steps; none: no step has one -/
def pickN (l : List (Int × Int)) (a b : Int) : Nat → Option Int
 | 0 => none
 | i + 1 => match l[i]? with
  | some s => if (cutP a b s.1 (((l[i + 1]?).map (·.1)).getD 1099511627776)).1 ≥ (cutP a b s.1 (((l[i + 1]?).map (·.1)).getD 1099511627776)).2 then pickN l a b i else better (pickN l a b i) s.2
  | none => pickN l a b i
def leastL (l : List (Int × Int)) (a b : Int) : Int := (pickN l a b l.length).getD 0

set_option maxRecDepth 100000 in
theorem least1_calls (a b : Int) (w : World) : Calls Try.prog 45 #[.int .i64 a, .int .i64 b] w fun ev w' => ev = .returned (.bool (decide (a < b))) ∧ w' = w := by
 go_enter Try.func45, Try.ntmps45
 go_wp2
 go_ret
 exact ⟨rfl, rfl⟩

/-- what pick's two variables hold -/
structure Best (w : World) (g1 g2 g3 : Nat) (acc : Option Int) : Prop where
 best : w.heap[g1]? = some (.cells #[.int .i64 (acc.getD 0)] 3 (0, 0))
 met : w.heap[g2]? = some (.cells #[.bool acc.isSome] 4 (0, 0))
 ahead : w.cell? ⟨g3, 0, none⟩ = some (.func (.func 45) #[] #[])

set_option maxRecDepth 100000 in
set_option maxHeartbeats 2000000 in
theorem pick1_calls (g1 g2 g3 : Nat) (acc : Option Int) (v m : Int) (w : World) (hB : Best w g1 g2 g3 acc) (h12 : g1 ≠ g2) (h13 : g3 ≠ g1) (h23 : g3 ≠ g2) :
  Calls Try.prog 65 #[.int .i64 v, .int .i64 m, .pointer (some ⟨g2, 0, none⟩), .pointer (some ⟨g3, 0, none⟩), .pointer (some ⟨g1, 0, none⟩)] w fun ev w' =>
   ev = .returned (.tuple #[]) ∧ Best w' g1 g2 g3 (better acc v) ∧ Turned w w' g1 g2 g2 := by
 have hb : w.cell? ⟨g1, 0, none⟩ = some (.int .i64 (acc.getD 0)) := (blk_cell hB.best 0).trans rfl
 have hm : w.cell? ⟨g2, 0, none⟩ = some (.bool acc.isSome) := (blk_cell hB.met 0).trans rfl
 have ha := hB.ahead
 have fb := blk_frozen hB.best 0
 have fm := blk_frozen hB.met 0
 have HB := Aside0.mk hB
 have fin : Best ((w.setCell ⟨g1, 0, none⟩ (.int .i64 v)).setCell ⟨g2, 0, none⟩ (.bool true)) g1 g2 g3 (some v) ∧ Turned w ((w.setCell ⟨g1, 0, none⟩ (.int .i64 v)).setCell ⟨g2, 0, none⟩ (.bool true)) g1 g2 g2 := by
  refine ⟨⟨?_, ?_, ?_⟩, ?_⟩
  ·exact (Below.heap_setCell _ ⟨g2, 0, none⟩ _ g1 h12).trans (blk_put hB.best 0 _ rfl)
  ·exact blk_put ((Below.heap_setCell w ⟨g1, 0, none⟩ (.int .i64 v) g2 (Ne.symm h12)).trans hB.met) 0 _ rfl
  ·exact (World.cell?_of_block ((Below.heap_setCell _ ⟨g2, 0, none⟩ _ g3 h23).trans (Below.heap_setCell _ ⟨g1, 0, none⟩ _ g3 h13))).trans hB.ahead
  ·exact ⟨rfl, rfl, rfl, by simp [World.setCell], fun k hk hp hq => (Below.heap_setCell _ ⟨g2, 0, none⟩ _ k hq).trans (Below.heap_setCell _ ⟨g1, 0, none⟩ _ k hp), .inl rfl⟩
 have FIN := Aside0.mk fin
 clear hB fin
 cases acc with
 | none =>
  simp only [Option.isSome_none, Option.getD_none] at hb hm
  go_enter Try.func65, Try.ntmps65
  go_wp2
  refine bodyPost_end (results_none rfl _ _ _) rfl ?_
  exact ⟨rfl, FIN.out⟩
 | some b =>
  simp only [Option.isSome_some, Option.getD_some] at hb hm
  by_cases hvb : v < b
  ·have e1 : decide (v < b) = true := by simpa using hvb
   go_enter Try.func65, Try.ntmps65
   go_wp2_with (go_at_call 45; refine (least1_calls v b _).mono ?_; rintro ev w1 ⟨rfl, hw1⟩; rw [hw1]; clear hw1)
   refine bodyPost_end (results_none rfl _ _ _) rfl ?_
   have e2 : better (some b) v = some v := if_pos (by simpa using e1)
   rw [e2]
   exact ⟨rfl, FIN.out⟩
  ·have e1 : decide (v < b) = false := by simpa using hvb
   go_enter Try.func65, Try.ntmps65
   go_wp2_with (go_at_call 45; refine (least1_calls v b _).mono ?_; rintro ev w1 ⟨rfl, hw1⟩; rw [hw1]; clear hw1)
   refine bodyPost_end (results_none rfl _ _ _) rfl ?_
   have e2 : better (some b) v = some b := if_neg (by simpa using e1)
   rw [e2]
   exact ⟨rfl, HB.out, Turned.of_below (Below.refl _ w)⟩
theorem StepsIs.turned {w w1 : World} {p q c g1 g2 g : Nat} {l : List (Int × Int)} (h : StepsIs w p q c l) (t : Turned w w1 g1 g2 g) (h1 : p ≠ g1) (h2 : p ≠ g2) (h3 : q ≠ g1) (h4 : q ≠ g2) : StepsIs w1 p q c l := by
 obtain ⟨sp, k1, k2⟩ := h.row
 exact ⟨(t.block p (blk_lt h.ptr) h1 h2).trans h.ptr, ⟨sp, (t.block q (blk_lt k1) h3 h4).trans k1, k2⟩, h.ne, h.cap⟩
theorem Best.below {w w1 : World} {g1 g2 g3 : Nat} {acc : Option Int} (h : Best w g1 g2 g3 acc) (k : Below w.heap.size w w1) : Best w1 g1 g2 g3 acc := ⟨blk_below h.best k, blk_below h.met k, below_cell1 k h.ahead⟩
end Go.Proofs.Ytlddccmgamlccaa.Us

set_option linter.unusedVariables false
set_option linter.unusedSimpArgs false
namespace Go.Proofs.Ytlddccmgamlccaa.Us
open Go Go.Proofs Go.RowKit Go.Lib Go.Proofs.YtlddccmgamlccaaW.PrintWords Go.Proofs.YtlddccmgamlccaaW.PrintLast Go.Proofs.YtlddccmgamlccaaW.PrintMore

set_option maxRecDepth 100000 in
set_option maxHeartbeats 8000000 in
theorem each_calls (p q c g1 g2 g3 : Nat) (l : List (Int × Int)) (fa fb : Int) (w : World) (hS : StepsIs w p q c l) (hL : Lev l) (hB : Best w g1 g2 g3 none) (h12 : g1 ≠ g2) (h13 : g3 ≠ g1) (h23 : g3 ≠ g2)
  (h1p : g1 ≠ p) (h1q : g1 ≠ q) (h2p : g2 ≠ p) (h2q : g2 ≠ q) :
  Calls Try.prog 64 #[.pointer (some ⟨p, 0, none⟩), .agg #[.int .i64 fa, .int .i64 fb], .func (.func 65) #[] #[.pointer (some ⟨g2, 0, none⟩), .pointer (some ⟨g3, 0, none⟩), .pointer (some ⟨g1, 0, none⟩)]] w fun ev w' =>
   ev = .returned (.tuple #[]) ∧ Best w' g1 g2 g3 (pickN l fa fb l.length) ∧ Turned w w' g1 g2 g2 := by
 have hb0 : Below w.heap.size w (w.alloc (.cells #[.int .i64 fa, .int .i64 fb] 25)) := (Below.refl _ w).alloc (Nat.le_refl _) _
 have n0 : (w.alloc (.cells #[.int .i64 fa, .int .i64 fb] 25)).heap[w.heap.size]? = some (.cells #[.int .i64 fa, .int .i64 fb] 25 (0, 0)) := blk_new w _
 have hne := hL.ne
 have hlen := hL.len
 have HS := Aside0.mk hS
 have HS0 := Aside0.mk (hS.below hb0)
 have HB := Aside0.mk hB
 have HB0 := Aside0.mk hb0
 have HN0 := Aside0.mk n0
 have hpB := blk_lt hS.ptr
 have hqB := blk_lt hS.row.choose_spec.1
 have hg1 := blk_lt hB.best
 have hg2 := blk_lt hB.met
 have gc : (w.alloc (.cells #[.int .i64 fa, .int .i64 fb] 25)).cell? ⟨p, 0, none⟩ = some (.slice (some ⟨q, 0, none⟩) l.length c) := (blk_cell HS0.out.ptr 0).trans rfl
 clear hS hB hb0 n0
 go_enter Try.func64, Try.ntmps64
 go_wp2_with (go_at_call 40; refine (none_calls p q c l _ HS0.out hne).mono ?_; rintro ev w1 ⟨rfl, rfl⟩)
 go_loopw [17] (fun v17 wr => ∃ i : Nat, v17 = .int .i64 (i : Int) ∧ i ≤ l.length ∧ Best wr g1 g2 g3 (pickN l fa fb i) ∧ wr.heap[w.heap.size]? = some (.cells #[.int .i64 fa, .int .i64 fb] 25 (0, 0)) ∧ Turned w wr g1 g2 g2)
  (fun v17 wr => l.length - natV v17)
 case atStart =>
  refine ⟨0, rfl, Nat.zero_le _, ⟨blk_below HB.out.best HB0.out, blk_below HB.out.met HB0.out, below_cell1 HB0.out HB.out.ahead⟩, HN0.out, Turned.of_below HB0.out⟩
 case round =>
  obtain ⟨i, rfl, hi, hBr, hsp, hTr⟩ := hrel
  have hSr : StepsIs wr p q c l := HS.out.turned hTr (Ne.symm h1p) (Ne.symm h2p) (Ne.symm h1q) (Ne.symm h2q)
  by_cases hlt : i < l.length
  ·have e1 : decide ((i : Int) < (l.length : Int)) = true := by simp; omega
   have hp1 : wr.cell? ⟨p, 0, none⟩ = some (.slice (some ⟨q, 0, none⟩) l.length c) := (blk_cell hSr.ptr 0).trans rfl
   obtain ⟨x, y, hxy, gx, gy⟩ := hSr.row.at_ i hlt
   have hw1 : IntKind.i64.wrap ((i : Int) + 1) = (i : Int) + 1 := by rw [IntKind.wrap_i64]; omega
   have s0 : wr.cell? ⟨w.heap.size, 0, none⟩ = some (.int .i64 fa) := (blk_cell hsp 0).trans rfl
   have s1 : wr.cell? ⟨w.heap.size, 1, none⟩ = some (.int .i64 fb) := (blk_cell hsp 1).trans rfl
   have HSR := Aside0.mk hSr
   have HBR := Aside0.mk hBr
   have HSP := Aside0.mk hsp
   have HTR := Aside0.mk hTr
   have HXY := Aside0.mk hxy
   clear hSr hBr hsp hTr hxy gc
   have hp2 : (wr.alloc (.cells #[.int .i64 x, .int .i64 y] 42 (0, 0))).cell? ⟨p, 0, none⟩ = some (.slice (some ⟨q, 0, none⟩) l.length c) := below_cell1 ((Below.refl _ wr).alloc (Nat.le_refl _) _) hp1
   have s02 : (wr.alloc (.cells #[.int .i64 x, .int .i64 y] 42 (0, 0))).cell? ⟨w.heap.size, 0, none⟩ = some (.int .i64 fa) := below_cell1 ((Below.refl _ wr).alloc (Nat.le_refl _) _) s0
   have s12 : (wr.alloc (.cells #[.int .i64 x, .int .i64 y] 42 (0, 0))).cell? ⟨w.heap.size, 1, none⟩ = some (.int .i64 fb) := below_cell1 ((Below.refl _ wr).alloc (Nat.le_refl _) _) s1
   by_cases hl2 : i + 1 < l.length
   ·skip
    have e2 : decide ((i : Int) + 1 < (l.length : Int)) = true := by simp; omega
    obtain ⟨x2, y2, hxy2, gx2, gy2⟩ := HSR.out.row.at_ (i + 1) hl2
    have HXY2 := Aside0.mk hxy2
    have hi1 : (0 : Int) ≤ (i : Int) + 1 := by omega
    have htn : ((i : Int) + 1).toNat = i + 1 := by omega
    have gx3 : (wr.alloc (.cells #[.int .i64 x, .int .i64 y] 42 (0, 0))).cell? ⟨q, (i + 1) * 2, none⟩ = some (.int .i64 x2) := below_cell1 ((Below.refl _ wr).alloc (Nat.le_refl _) _) gx2
    clear hxy2
    obtain ⟨C1, hC1⟩ : ∃ C, (cutP fa fb x x2).1 = C := ⟨_, rfl⟩
    obtain ⟨C2, hC2⟩ : ∃ C, (cutP fa fb x x2).2 = C := ⟨_, rfl⟩
    have hCr := cutP_range fa fb x x2
    rw [hC1, hC2] at hCr
    have hCw : IntKind.i64.wrap (C2 - C1) = C2 - C1 := by rw [IntKind.wrap_i64]; omega
    have hpn : pickN l fa fb (i + 1) = if C1 ≥ C2 then pickN l fa fb i else better (pickN l fa fb i) y := by
     rw [pickN, List.getElem?_eq_getElem hlt, HXY.out, List.getElem?_eq_getElem hl2, HXY2.out]
     show (if (cutP fa fb x x2).1 ≥ (cutP fa fb x x2).2 then _ else _) = _
     rw [hC1, hC2]
    by_cases hcc : C1 ≥ C2
    ·have HPN := Aside0.mk (hpn.trans (if_pos hcc))
     clear hpn
     have e3 : decide (C1 ≥ C2) = true := by simp; omega
     go_wp2_with (first
      | (go_at_call 51; refine (scut_calls fa fb x x2 _).mono ?_; rintro ev w1 ⟨rfl, hb1⟩; rw [hC1, hC2]; have hbA := (Below.refl wr.heap.size wr).alloc (Nat.le_refl _) (.cells #[.int .i64 x, .int .i64 y] 42 (0, 0)); have hbB := below_step hbA hb1; have nx := blk_below (blk_new wr (.cells #[.int .i64 x, .int .i64 y] 42 (0, 0))) hb1; have nc := blk_new w1 (.cells #[.int .i64 C1, .int .i64 C2] 25 (0, 0)); have nx2 := blk_alloc nx (.cells #[.int .i64 C1, .int .i64 C2] 25 (0, 0)))
      | (go_at_call 28; refine (pempty_calls (C1, C2) hCr _).mono ?_; rintro ev w2 ⟨rfl, hb2⟩; have hbC := below_step (hbB.alloc hbB.size (.cells #[.int .i64 C1, .int .i64 C2] 25 (0, 0))) hb2; have nc2 := blk_below nc hb2; have nx3 := blk_below nx2 hb2; have c1 : w2.cell? ⟨w1.heap.size, 0, none⟩ = some (.int .i64 C1) := (blk_cell nc2 0).trans rfl; have c2 : w2.cell? ⟨w1.heap.size, 1, none⟩ = some (.int .i64 C2) := (blk_cell nc2 1).trans rfl; have c3 : w2.cell? ⟨wr.heap.size, 1, none⟩ = some (.int .i64 y) := (blk_cell nx3 1).trans rfl))
     go_roundw
     case rel =>
      refine ⟨i + 1, by go_num, by omega, ?_, ?_, ?_⟩
      ·rw [HPN.out]; exact HBR.out.below hbC
      ·exact blk_below HSP.out hbC
      ·exact HTR.out.below hbC
     case measure => simp [natV]; omega
    ·have HPN := Aside0.mk (hpn.trans (if_neg hcc))
     clear hpn
     have e3 : decide (C1 ≥ C2) = false := by simp; omega
     go_wp2_with (first
      | (go_at_call 51; refine (scut_calls fa fb x x2 _).mono ?_; rintro ev w1 ⟨rfl, hb1⟩; rw [hC1, hC2]; have hbA := (Below.refl wr.heap.size wr).alloc (Nat.le_refl _) (.cells #[.int .i64 x, .int .i64 y] 42 (0, 0)); have hbB := below_step hbA hb1; have nx := blk_below (blk_new wr (.cells #[.int .i64 x, .int .i64 y] 42 (0, 0))) hb1; have nc := blk_new w1 (.cells #[.int .i64 C1, .int .i64 C2] 25 (0, 0)); have nx2 := blk_alloc nx (.cells #[.int .i64 C1, .int .i64 C2] 25 (0, 0)))
      | (go_at_call 28; refine (pempty_calls (C1, C2) hCr _).mono ?_; rintro ev w2 ⟨rfl, hb2⟩; have hbC := below_step (hbB.alloc hbB.size (.cells #[.int .i64 C1, .int .i64 C2] 25 (0, 0))) hb2; have nc2 := blk_below nc hb2; have nx3 := blk_below nx2 hb2; have c1 : w2.cell? ⟨w1.heap.size, 0, none⟩ = some (.int .i64 C1) := (blk_cell nc2 0).trans rfl; have c2 : w2.cell? ⟨w1.heap.size, 1, none⟩ = some (.int .i64 C2) := (blk_cell nc2 1).trans rfl; have c3 : w2.cell? ⟨wr.heap.size, 1, none⟩ = some (.int .i64 y) := (blk_cell nx3 1).trans rfl)
      | (go_at_call 65; refine (pick1_calls g1 g2 g3 (pickN l fa fb i) y _ _ (HBR.out.below hbC) h12 h13 h23).mono ?_; rintro ev w3 ⟨rfl, hB3, hT3⟩))
     go_roundw
     case rel =>
      refine ⟨i + 1, by go_num, by omega, ?_, ?_, ?_⟩
      ·rw [HPN.out]; exact hB3
      ·exact (hT3.block _ (blk_lt (blk_below HSP.out hbC)) (by omega) (by omega)).trans (blk_below HSP.out hbC)
      ·exact (HTR.out.below hbC).trans hT3
     case measure => simp [natV]; omega
   ·skip
    have e2 : decide ((i : Int) + 1 < (l.length : Int)) = false := by simp; omega
    obtain ⟨C1, hC1⟩ : ∃ C, (cutP fa fb x 1099511627776).1 = C := ⟨_, rfl⟩
    obtain ⟨C2, hC2⟩ : ∃ C, (cutP fa fb x 1099511627776).2 = C := ⟨_, rfl⟩
    have hCr := cutP_range fa fb x 1099511627776
    rw [hC1, hC2] at hCr
    have hCw : IntKind.i64.wrap (C2 - C1) = C2 - C1 := by rw [IntKind.wrap_i64]; omega
    have hpn : pickN l fa fb (i + 1) = if C1 ≥ C2 then pickN l fa fb i else better (pickN l fa fb i) y := by
     rw [pickN, List.getElem?_eq_getElem hlt, HXY.out, List.getElem?_eq_none (by omega)]
     show (if (cutP fa fb x 1099511627776).1 ≥ (cutP fa fb x 1099511627776).2 then _ else _) = _
     rw [hC1, hC2]
    by_cases hcc : C1 ≥ C2
    ·have HPN := Aside0.mk (hpn.trans (if_pos hcc))
     clear hpn
     have e3 : decide (C1 ≥ C2) = true := by simp; omega
     go_wp2_with (first
      | (go_at_call 51; refine (scut_calls fa fb x 1099511627776 _).mono ?_; rintro ev w1 ⟨rfl, hb1⟩; rw [hC1, hC2]; have hbA := (Below.refl wr.heap.size wr).alloc (Nat.le_refl _) (.cells #[.int .i64 x, .int .i64 y] 42 (0, 0)); have hbB := below_step hbA hb1; have nx := blk_below (blk_new wr (.cells #[.int .i64 x, .int .i64 y] 42 (0, 0))) hb1; have nc := blk_new w1 (.cells #[.int .i64 C1, .int .i64 C2] 25 (0, 0)); have nx2 := blk_alloc nx (.cells #[.int .i64 C1, .int .i64 C2] 25 (0, 0)))
      | (go_at_call 28; refine (pempty_calls (C1, C2) hCr _).mono ?_; rintro ev w2 ⟨rfl, hb2⟩; have hbC := below_step (hbB.alloc hbB.size (.cells #[.int .i64 C1, .int .i64 C2] 25 (0, 0))) hb2; have nc2 := blk_below nc hb2; have nx3 := blk_below nx2 hb2; have c1 : w2.cell? ⟨w1.heap.size, 0, none⟩ = some (.int .i64 C1) := (blk_cell nc2 0).trans rfl; have c2 : w2.cell? ⟨w1.heap.size, 1, none⟩ = some (.int .i64 C2) := (blk_cell nc2 1).trans rfl; have c3 : w2.cell? ⟨wr.heap.size, 1, none⟩ = some (.int .i64 y) := (blk_cell nx3 1).trans rfl))
     go_roundw
     case rel =>
      refine ⟨i + 1, by go_num, by omega, ?_, ?_, ?_⟩
      ·rw [HPN.out]; exact HBR.out.below hbC
      ·exact blk_below HSP.out hbC
      ·exact HTR.out.below hbC
     case measure => simp [natV]; omega
    ·have HPN := Aside0.mk (hpn.trans (if_neg hcc))
     clear hpn
     have e3 : decide (C1 ≥ C2) = false := by simp; omega
     go_wp2_with (first
      | (go_at_call 51; refine (scut_calls fa fb x 1099511627776 _).mono ?_; rintro ev w1 ⟨rfl, hb1⟩; rw [hC1, hC2]; have hbA := (Below.refl wr.heap.size wr).alloc (Nat.le_refl _) (.cells #[.int .i64 x, .int .i64 y] 42 (0, 0)); have hbB := below_step hbA hb1; have nx := blk_below (blk_new wr (.cells #[.int .i64 x, .int .i64 y] 42 (0, 0))) hb1; have nc := blk_new w1 (.cells #[.int .i64 C1, .int .i64 C2] 25 (0, 0)); have nx2 := blk_alloc nx (.cells #[.int .i64 C1, .int .i64 C2] 25 (0, 0)))
      | (go_at_call 28; refine (pempty_calls (C1, C2) hCr _).mono ?_; rintro ev w2 ⟨rfl, hb2⟩; have hbC := below_step (hbB.alloc hbB.size (.cells #[.int .i64 C1, .int .i64 C2] 25 (0, 0))) hb2; have nc2 := blk_below nc hb2; have nx3 := blk_below nx2 hb2; have c1 : w2.cell? ⟨w1.heap.size, 0, none⟩ = some (.int .i64 C1) := (blk_cell nc2 0).trans rfl; have c2 : w2.cell? ⟨w1.heap.size, 1, none⟩ = some (.int .i64 C2) := (blk_cell nc2 1).trans rfl; have c3 : w2.cell? ⟨wr.heap.size, 1, none⟩ = some (.int .i64 y) := (blk_cell nx3 1).trans rfl)
      | (go_at_call 65; refine (pick1_calls g1 g2 g3 (pickN l fa fb i) y _ _ (HBR.out.below hbC) h12 h13 h23).mono ?_; rintro ev w3 ⟨rfl, hB3, hT3⟩))
     go_roundw
     case rel =>
      refine ⟨i + 1, by go_num, by omega, ?_, ?_, ?_⟩
      ·rw [HPN.out]; exact hB3
      ·exact (hT3.block _ (blk_lt (blk_below HSP.out hbC)) (by omega) (by omega)).trans (blk_below HSP.out hbC)
      ·exact (HTR.out.below hbC).trans hT3
     case measure => simp [natV]; omega
  ·obtain rfl : i = l.length := by omega
   have e1 : decide ((l.length : Int) < (l.length : Int)) = false := by simp
   have HBR := Aside0.mk hBr
   have HTR := Aside0.mk hTr
   clear hBr hTr
   go_wp2
   refine bodyPost_end (results_none rfl _ _ _) rfl ?_
   exact ⟨rfl, HBR.out, HTR.out⟩
end Go.Proofs.Ytlddccmgamlccaa.Us

set_option linter.unusedVariables false
set_option linter.unusedSimpArgs false
namespace Go.Proofs.Ytlddccmgamlccaa.Us
open Go Go.Proofs Go.RowKit Go.Lib Go.Proofs.YtlddccmgamlccaaW.PrintWords Go.Proofs.YtlddccmgamlccaaW.PrintLast Go.Proofs.YtlddccmgamlccaaW.PrintMore

theorem size_alloc (w : World) (o : Obj) : (w.alloc o).heap.size = w.heap.size + 1 := Array.size_push _

theorem best_new (w : World) (o : Obj) (ft : TypeId) :
  Best ((((w.alloc o).alloc (.cells #[.func (.func 45) #[] #[]] ft (0, 0))).alloc (.cells #[.int .i64 0] 3 (0, 0))).alloc (.cells #[.bool false] 4 (0, 0))) (w.heap.size + 1 + 1) (w.heap.size + 1 + 1 + 1) (w.heap.size + 1) none ∧
  Below w.heap.size w ((((w.alloc o).alloc (.cells #[.func (.func 45) #[] #[]] ft (0, 0))).alloc (.cells #[.int .i64 0] 3 (0, 0))).alloc (.cells #[.bool false] 4 (0, 0))) := by
 have b1 := (Below.refl w.heap.size w).alloc (Nat.le_refl _) o
 have b2 := b1.alloc b1.size (.cells #[.func (.func 45) #[] #[]] ft (0, 0))
 have b3 := b2.alloc b2.size (.cells #[.int .i64 0] 3 (0, 0))
 have b4 := b3.alloc b3.size (.cells #[.bool false] 4 (0, 0))
 have n2 := blk_new (w.alloc o) (.cells #[.func (.func 45) #[] #[]] ft (0, 0))
 rw [size_alloc] at n2
 have n3 := blk_new ((w.alloc o).alloc (.cells #[.func (.func 45) #[] #[]] ft (0, 0))) (.cells #[.int .i64 0] 3 (0, 0))
 rw [size_alloc, size_alloc] at n3
 have n4 := blk_new (((w.alloc o).alloc (.cells #[.func (.func 45) #[] #[]] ft (0, 0))).alloc (.cells #[.int .i64 0] 3 (0, 0))) (.cells #[.bool false] 4 (0, 0))
 rw [size_alloc, size_alloc, size_alloc] at n4
 exact ⟨⟨blk_alloc n3 _, n4, (blk_cell (blk_alloc (blk_alloc n2 _) _) 0).trans rfl⟩, b4⟩

set_option maxRecDepth 100000 in
set_option maxHeartbeats 4000000 in
theorem pick_calls (p q c : Nat) (l : List (Int × Int)) (fa fb : Int) (w : World) (hS : StepsIs w p q c l) (hL : Lev l) :
  Calls Try.prog 44 #[.pointer (some ⟨p, 0, none⟩), .agg #[.int .i64 fa, .int .i64 fb], .func (.func 45) #[] #[]] w fun ev w' =>
   ev = .returned (.int .i64 (leastL l fa fb)) ∧ Below w.heap.size w w' := by
 have HS := Aside0.mk hS
 have hpB := blk_lt hS.ptr
 have hqB := blk_lt hS.row.choose_spec.1
 clear hS
 go_enter Try.func44, Try.ntmps44
 go_wp2_with (fail)
 refine (each_calls p q c (w.heap.size + 1 + 1) (w.heap.size + 1 + 1 + 1) (w.heap.size + 1) l fa fb _ (HS.out.below (best_new w _ _).2) hL (best_new w _ _).1 (by omega) (by omega) (by omega) (by omega) (by omega) (by omega) (by omega)).mono ?_
 rintro ev w1 ⟨rfl, hB1, hT1⟩
 have hbst : w1.cell? ⟨w.heap.size + 1 + 1, 0, none⟩ = some (.int .i64 (leastL l fa fb)) := (blk_cell hB1.best 0).trans rfl
 have HT := Aside0.mk hT1
 clear hB1 hT1
 go_wp2
 go_ret
 refine ⟨rfl, ?_⟩
 have hT1 := HT.out
 have hb := (best_new w (.cells #[.int .i64 fa, .int .i64 fb] 25 (0, 0)) 83).2
 exact ⟨hT1.os.trans hb.os, hT1.tape.trans hb.tape, hT1.output.trans hb.output, Nat.le_trans hb.size hT1.size, fun k hk => (hT1.block k (Nat.lt_of_lt_of_le hk hb.size) (by omega) (by omega)).trans (hb.block k hk)⟩

set_option maxRecDepth 100000 in
set_option maxHeartbeats 4000000 in
theorem least_calls (p q c : Nat) (l : List (Int × Int)) (fa fb : Int) (w : World) (hS : StepsIs w p q c l) (hL : Lev l) :
  Calls Try.prog 16 #[.pointer (some ⟨p, 0, none⟩), .agg #[.int .i64 fa, .int .i64 fb]] w fun ev w' =>
   ev = .returned (.int .i64 (leastL l fa fb)) ∧ Below w.heap.size w w' := by
 have hb := (Below.refl w.heap.size w).alloc (Nat.le_refl _) (.cells #[.int .i64 fa, .int .i64 fb] 25 (0, 0))
 have HP := Aside0.mk (pick_calls p q c l fa fb _ (hS.below hb) hL)
 have HB := Aside0.mk hb
 clear hS hb
 go_enter Try.func16, Try.ntmps16
 go_wp2_with (go_at_call 44; refine HP.out.mono ?_; rintro ev w1 ⟨rfl, hb1⟩)
 go_ret
 exact ⟨rfl, below_step HB.out hb1⟩
end Go.Proofs.Ytlddccmgamlccaa.Us

set_option linter.unusedVariables false
set_option linter.unusedSimpArgs false
namespace Go.Proofs.Ytlddccmgamlccaa.Us
open Go Go.Proofs Go.RowKit Go.Lib Go.Proofs.YtlddccmgamlccaaW.PrintWords Go.Proofs.YtlddccmgamlccaaW.PrintLast Go.Proofs.YtlddccmgamlccaaW.PrintMore

/-- what a copy is: a row of its own -/
def Copied (w : World) (l : List (Int × Int)) (ev : Ending) (w' : World) : Prop :=
 ∃ q' c', ev = .returned (.slice (some ⟨q', 0, none⟩) l.length c') ∧ RowIs w' q' c' l ∧ c' ≤ 9223372036854775807 ∧ w.heap.size ≤ q' ∧ Below w.heap.size w w'

set_option maxRecDepth 100000 in
set_option maxHeartbeats 4000000 in
theorem sclone_calls (q c : Nat) (l : List (Int × Int)) (w : World) (hR : RowIs w q c l) (hn0 : l ≠ []) (hn : l.length ≤ 1099511627776) :
  Calls Try.prog 41 #[.slice (some ⟨q, 0, none⟩) l.length c] w (Copied w l) := by
 obtain ⟨i0, hi0, hz0, hzs, hzb⟩ := info_parts infoStep
 have hu := Try.underlying39
 have hpos : 0 < l.length := List.length_pos_iff.2 hn0
 obtain ⟨n, hnn⟩ : ∃ n, l.length = n := ⟨_, rfl⟩
 have HN := Aside0.mk hnn
 have HR := Aside0.mk hR
 rw [hnn] at hn hpos ⊢
 have heq : ∀ w, (binOp .eql 39 (.slice (some ⟨q, 0, none⟩) n c) (.slice none 0 0)).run Try.prog w = .ok (.bool false) w := fun w => Go.Lib.run_eql_slice_nil w 39 42 _ n c 0 0 Try.underlying39
 have hown : (w.alloc (.cells #[] 42 (0, 0))).ownsRow w.heap.size 42 2 (.slice (some ⟨w.heap.size, 0, none⟩) 0 0) 0 [] :=
  ⟨rfl, .inr ⟨w.heap.size, 0, #[], rfl, Nat.le_refl _, blk_new w _, Nat.le_refl _, by unfold maxLen; omega, rfl, rfl⟩⟩
 have hb := (Below.refl w.heap.size w).alloc (Nat.le_refl _) (.cells #[] 42 (0, 0))
 have hnews : ∀ j u, (lvc l)[j]? = some u → (w.alloc (.cells #[] 42 (0, 0))).cell? ((⟨q, 0, none⟩ : Addr).add j) = some u := fun j u hj => by
  obtain ⟨sp, h1, h2, h3⟩ := hR
  rw [add_plain]
  refine (blk_cell (blk_below h1 hb) j).trans ?_
  rw [List.getElem?_toArray, List.getElem?_append_left (List.getElem?_eq_some_iff.1 hj).1]; exact hj
 have hll : (lvc l).length = n * 2 := by rw [lvc_length, hnn]; omega
 have hbase : w.heap.size ≤ (w.alloc (.cells #[] 42 (0, 0))).heap.size := hb.size
 have HB := Aside0.mk hb
 have HO := Aside0.mk hown
 have HNE := Aside0.mk hnews
 have HLL := Aside0.mk hll
 have HBS := Aside0.mk hbase
 clear hown hnews hb hll hbase
 clear hR hnn
 go_enter Try.func41, Try.ntmps41
 go_wp2_with (at_builtin; refine wpList_append_own_at _ rfl _ _ 39 rfl w.heap.size 42 i0 (.agg #[.int .i64 0, .int .i64 0]) 2 16 Try.underlying39 hi0 hz0 hzs hzb rfl (by decide) _ 0 [] rfl HO.out ⟨q, 0, none⟩ n c (lvc l) rfl HLL.out HNE.out (lvc_one l) (by unfold maxLen; omega) (by omega) HBS.out ?_; intro v' w1 hown' hgrow hnil hat)
 all_goals
  go_ret
  rw [List.nil_append, Nat.zero_add] at hown'
  obtain ⟨hl1, g, c', rfl, hR', hq, hc'⟩ := own_row hown' (by omega)
  refine ⟨g, c', by rw [HN.out]; rfl, hR', hc', hq, ?_⟩
  exact Below.grown HB.out hgrow HBS.out (fun k hk => by
   have : some w.heap.size = some k := hk
   have := Option.some.inj this
   omega)
end Go.Proofs.Ytlddccmgamlccaa.Us

set_option linter.unusedVariables false
set_option linter.unusedSimpArgs false
namespace Go.Proofs.Ytlddccmgamlccaa.Us
open Go Go.Proofs Go.RowKit Go.Lib Go.Proofs.YtlddccmgamlccaaW.PrintWords Go.Proofs.YtlddccmgamlccaaW.PrintLast Go.Proofs.YtlddccmgamlccaaW.PrintMore

set_option maxRecDepth 100000 in
theorem list_nil (w : World) : Calls Try.prog 13 #[.pointer none] w fun ev w' => ev = .returned (.slice none 0 0) ∧ w' = w := by
 go_enter Try.func13, Try.ntmps13
 go_wp2_with (go_at_call 40; refine (none_nil _).mono ?_; rintro ev w1 ⟨rfl, rfl⟩)
 go_ret
 exact ⟨rfl, rfl⟩

set_option maxRecDepth 100000 in
set_option maxHeartbeats 4000000 in
theorem list_calls (p q c : Nat) (l : List (Int × Int)) (w : World) (hS : StepsIs w p q c l) (hL : Lev l) :
  Calls Try.prog 13 #[.pointer (some ⟨p, 0, none⟩)] w (Copied w l) := by
 have gc : w.cell? ⟨p, 0, none⟩ = some (.slice (some ⟨q, 0, none⟩) l.length c) := (blk_cell hS.ptr 0).trans rfl
 have HC := Aside0.mk (sclone_calls q c l w hS.row hL.ne hL.len)
 have HN := Aside0.mk (none_calls p q c l w hS hL.ne)
 clear hS
 go_enter Try.func13, Try.ntmps13
 go_wp2_with (first
  | (go_at_call 40; refine HN.out.mono ?_; rintro ev w1 ⟨rfl, hw1⟩; rw [hw1]; clear hw1)
  | (go_at_call 41; refine HC.out.mono ?_; rintro ev w2 ⟨q', c', rfl, R2, hc2, hq2, hb2⟩))
 go_ret
 exact ⟨q', c', rfl, R2, hc2, hq2, hb2⟩

/-- a Steps of its own -/
def Made (w : World) (l : List (Int × Int)) (ev : Ending) (w' : World) : Prop :=
 ∃ p' q' c', ev = .returned (.pointer (some ⟨p', 0, none⟩)) ∧ StepsIs w' p' q' c' l ∧ w.heap.size ≤ p' ∧ w.heap.size ≤ q' ∧ Below w.heap.size w w'

set_option maxRecDepth 100000 in
theorem clone_nil (w : World) : Calls Try.prog 14 #[.pointer none] w fun ev w' => ev = .returned (.pointer none) ∧ w' = w := by
 go_enter Try.func14, Try.ntmps14
 go_wp2_with (go_at_call 40; refine (none_nil _).mono ?_; rintro ev w1 ⟨rfl, rfl⟩)
 go_ret
 exact ⟨rfl, rfl⟩

set_option maxRecDepth 100000 in
set_option maxHeartbeats 4000000 in
theorem clone_calls (p q c : Nat) (l : List (Int × Int)) (w : World) (hS : StepsIs w p q c l) (hL : Lev l) :
  Calls Try.prog 14 #[.pointer (some ⟨p, 0, none⟩)] w (Made w l) := by
 have gc : w.cell? ⟨p, 0, none⟩ = some (.slice (some ⟨q, 0, none⟩) l.length c) := (blk_cell hS.ptr 0).trans rfl
 have HC := Aside0.mk (sclone_calls q c l w hS.row hL.ne hL.len)
 have HN := Aside0.mk (none_calls p q c l w hS hL.ne)
 clear hS
 go_enter Try.func14, Try.ntmps14
 go_wp2_with (first
  | (go_at_call 40; refine HN.out.mono ?_; rintro ev w1 ⟨rfl, hw1⟩; rw [hw1]; clear hw1)
  | (go_at_call 41; refine HC.out.mono ?_; rintro ev w2 ⟨q', c', rfl, R2, hc2, hq2, hb2⟩))
 go_ret
 have hqw := blk_lt R2.choose_spec.1
 refine ⟨w2.heap.size, q', c', rfl, ⟨blk_new w2 _, ?_, by omega, hc2⟩, hb2.size, hq2, hb2.alloc hb2.size _⟩
 exact R2.below ((Below.refl _ w2).alloc (Nat.le_refl _) _)

set_option maxRecDepth 100000 in
set_option maxHeartbeats 4000000 in
theorem flat_calls (v : Int) (w : World) : Calls Try.prog 29 #[.int .i64 v] w (Made w [(0, lvT v)]) := by
 go_enter Try.func29, Try.ntmps29
 go_wp2_with (go_at_call 56; refine (within_calls v _).mono ?_; rintro ev w1 ⟨rfl, hb1⟩)
 go_ret
 have b2 := hb1.alloc hb1.size (.cells #[.int .i64 0, .int .i64 (lvT v)] 42 (0, 0))
 have n2 := blk_new w1 (.cells #[.int .i64 0, .int .i64 (lvT v)] 42 (0, 0))
 refine ⟨w1.heap.size + 1, w1.heap.size, 1, rfl, ⟨?_, ⟨[], blk_alloc n2 _, rfl, Nat.le_refl _⟩, by omega, by omega⟩, by have := hb1.size; omega, hb1.size, b2.alloc b2.size _⟩
 have n3 := blk_new (w1.alloc (.cells #[.int .i64 0, .int .i64 (lvT v)] 42 (0, 0))) (.cells #[.slice (some ⟨w1.heap.size, 0, none⟩) 1 1] 79 (0, 0))
 rw [size_alloc] at n3
 exact n3

set_option maxRecDepth 100000 in
set_option maxHeartbeats 4000000 in
theorem forget_calls (p q c : Nat) (l : List (Int × Int)) (t t1 : Int) (w : World) (hS : StepsIs w p q c l) (hL : Lev l) (hn : l.length + 2 < 1099511627776) (ht1 : t1 = if t ≥ 1099511627776 then 0 else t) :
  Calls Try.prog 33 #[.pointer (some ⟨p, 0, none⟩), .int .i64 t] w fun ev w' =>
   ev = .returned (.int .i64 0) ∧ ∃ q1 c1, StepsIs w' p q1 c1 (turnL (fun v => atL l t1) l 0 t1) ∧ Turned w w' p q q1 := by
 have HS := Aside0.mk hS
 have HA := Aside0.mk (at_calls p q c l t1 w hS hL)
 clear hS
 by_cases hb : t ≥ 1099511627776
 ·have e1 : decide (t ≥ 1099511627776) = true := by simp; omega
  obtain rfl : t1 = 0 := by rw [ht1, if_pos hb]
  clear ht1
  go_enter Try.func33, Try.ntmps33
  go_wp2_with (first
   | (go_at_call 39; refine HA.out.mono ?_; rintro ev w1 ⟨rfl, hb1⟩)
   | (go_at_call 31; refine (set_calls p q c l 0 0 (atL l 0) _ (HS.out.below hb1) hL hn).mono ?_; rintro ev w2 ⟨rfl, q1, c1, S1, T1⟩))
  go_ret
  exact ⟨rfl, q1, c1, S1, (Turned.of_below hb1).trans T1⟩
 ·have e1 : decide (t ≥ 1099511627776) = false := by simp; omega
  obtain rfl : t1 = t := by rw [ht1, if_neg hb]
  clear ht1
  go_enter Try.func33, Try.ntmps33
  go_wp2_with (first
   | (go_at_call 39; refine HA.out.mono ?_; rintro ev w1 ⟨rfl, hb1⟩)
   | (go_at_call 31; refine (set_calls p q c l 0 t1 (atL l t1) _ (HS.out.below hb1) hL hn).mono ?_; rintro ev w2 ⟨rfl, q1, c1, S1, T1⟩))
  go_ret
  exact ⟨rfl, q1, c1, S1, (Turned.of_below hb1).trans T1⟩
end Go.Proofs.Ytlddccmgamlccaa.Us

set_option linter.unusedVariables false
set_option linter.unusedSimpArgs false
namespace Go.Proofs.Ytlddccmgamlccaa.Us
open Go Go.Proofs Go.RowKit Go.Lib Go.Proofs.YtlddccmgamlccaaW.PrintWords Go.Proofs.YtlddccmgamlccaaW.PrintLast Go.Proofs.YtlddccmgamlccaaW.PrintMore

set_option maxRecDepth 100000 in
set_option maxHeartbeats 4000000 in
theorem steps_nil (w : World) : Calls Try.prog 36 #[.pointer none] w (Made w [(0, 0)]) := by
 go_enter Try.func36, Try.ntmps36
 go_wp2_with (first
  | (go_at_call 13; refine (list_nil _).mono ?_; rintro ev w1 ⟨rfl, hw1⟩; rw [hw1]; clear hw1)
  | (go_at_call 29; refine (flat_calls 0 _).mono ?_; rintro ev w2 ⟨p', q', c', rfl, S2, hp2, hq2, hb2⟩))
 go_ret
 exact ⟨p', q', c', rfl, S2, hp2, hq2, hb2⟩

set_option maxRecDepth 100000 in
set_option maxHeartbeats 4000000 in
theorem steps_calls (p q c : Nat) (l : List (Int × Int)) (w : World) (hS : StepsIs w p q c l) (hL : Lev l) :
  Calls Try.prog 36 #[.pointer (some ⟨p, 0, none⟩)] w fun ev w' => ev = .returned (.pointer (some ⟨p, 0, none⟩)) ∧ Below w.heap.size w w' := by
 have HC := Aside0.mk (list_calls p q c l w hS hL)
 have hl0 : ((l.length : Int) == 0) = false := by
  have : l.length ≠ 0 := fun e => hL.ne (List.eq_nil_of_length_eq_zero e)
  simp; exact hL.ne
 clear hS
 go_enter Try.func36, Try.ntmps36
 go_wp2_with (go_at_call 13; refine HC.out.mono ?_; rintro ev w1 ⟨q', c', rfl, R2, hc2, hq2, hb2⟩)
 go_ret
 exact ⟨rfl, hb2⟩

def fitsR.T1 : Bool × List (List Nat × List Nat) := (true, [([], []), ([0], [0]), ([1, 1], [1]), ([2], [2]), ([3, 2, 2], [2, 3]), ([2], [2]), ([4, 5, 4, 2], [2, 4, 5]), ([2], [2]), ([6, 7, 2], [2, 6, 7]), ([2, 8], [2, 8]), ([9, 6, 0, 1, 2, 3, 4, 5, 6, 7, 8, 9], [9])])
def fitsR.B1 : List Nat := [0, 1, 3, 7, 15, 7, 63, 7, 255, 511, 1023]
theorem fitsR.tab1 : rtab .any (opsOf Try.f10 1) = fitsR.T1 := by kernel_rfl
theorem fitsR.bits1 : waitsOk fitsR.T1.2 fitsR.B1 = true := by kernel_rfl
/-- whether a width is free at all times of a span -/
def fitsL (l : List (Int × Int)) (a b v : Int) : Bool := decide (clT a ≥ clT b) || decide (leastL l a b ≥ v)

set_option maxRecDepth 100000 in
set_option maxHeartbeats 4000000 in
theorem fits_calls (p q c : Nat) (l : List (Int × Int)) (a b v : Int) (w : World) (hS : StepsIs w p q c l) (hL : Lev l) :
  Calls Try.prog 10 #[.pointer (some ⟨p, 0, none⟩), .agg #[.int .i64 a, .int .i64 b], .int .i64 v] w fun ev w' => ev = .returned (.bool (fitsL l a b v)) ∧ Below w.heap.size w w' := by
 have hb0 := (Below.refl w.heap.size w).alloc (Nat.le_refl _) (.cells #[.int .i64 a, .int .i64 b] 25 (0, 0))
 have n0 := blk_new w (.cells #[.int .i64 a, .int .i64 b] 25 (0, 0))
 have s0 : (w.alloc (.cells #[.int .i64 a, .int .i64 b] 25 (0, 0))).cell? ⟨w.heap.size, 0, none⟩ = some (.int .i64 a) := (blk_cell n0 0).trans rfl
 have s1 : (w.alloc (.cells #[.int .i64 a, .int .i64 b] 25 (0, 0))).cell? ⟨w.heap.size, 1, none⟩ = some (.int .i64 b) := (blk_cell n0 1).trans rfl
 have HB0 := Aside0.mk hb0
 have HS := Aside0.mk (hS.below hb0)
 obtain ⟨e, he⟩ : ∃ e, decide (clT a ≥ clT b) = e := ⟨_, rfl⟩
 have hE := empty_calls a b
 rw [he] at hE
 have hF : fitsL l a b v = (e || decide (leastL l a b ≥ v)) := by unfold fitsL; rw [he]
 rw [hF]
 have HEM := Aside0.mk hE
 clear hS hb0 n0 he hF hE
 cases e with
 | true =>
  go_enter Try.func10, Try.ntmps10
  go_wp2_with (fail)
  refine start_ (n := 11) (S := fun w' => w'.cell? ⟨w.heap.size, 0, none⟩ = some (.int .i64 a) ∧ w'.cell? ⟨w.heap.size, 1, none⟩ = some (.int .i64 b)) (ds := []) #[false, false, false, false, false, false, false, false, false, false, false] (by kernel_rfl) rfl rfl ⟨s0, s1⟩ (fun hHeld => ?_); refine with_tabW fitsR.tab1 fitsR.bits1 (fun HT_ HW_ => ?_)
  refine take_ (i := 0) (N := some 7) (v := ?_) (a' := ?_) #[true, false, false, false, false, false, false, false, false, false, false] rfl rfl (take_ofW HT_.out HW_.out (by kernel_rfl)) (fun _ _ _ h => h) (Or.inl ⟨by rfl, ?_⟩) hHeld ?_ ?_
  rotate_left
  ·rintro w' ⟨s0, s1⟩
   go_simp
   with_reducible rfl
  rotate_left
  ·simp only [Act.put, List.setIfInBounds_toArray, List.set_cons_zero, List.set_cons_succ, i64_w, i32_w]
   rfl
  refine one_ (i := 1) (N := some 8) #[true, true, false, false, false, false, false, false, false, false, false] rfl rfl (one_of HT_.out (by kernel_rfl)) (by decide) (fun K hK => ?_)
  refine goes_ Try.func28 (by kernel_rfl) rfl #[.agg #[.int .i64 a, .int .i64 b]] (by rfl) rfl rfl (by (try simp only [List.map_toArray, List.map_cons, List.map_nil]); first | done | rfl | (simp only [List.length_drop, List.length_take]; rfl)) ?_
  with_reducible refine (HEM.out _).mono ?_
  rintro ev w1 ⟨rfl, hb1⟩
  have u0 := below_cell1 hb1 s0
  have u1 := below_cell1 hb1 s1
  refine ⟨_, rfl, ?_⟩
  refine hK.out _ _ ⟨u0, u1⟩ (fun hHeld => ?_)
  clear hK K
  refine norm_ (a' := ?_) ?_ ?_
  rotate_left
  ·show Act.put _ (some 8) _ = _
   simp only [Act.put, List.setIfInBounds_toArray, List.set_cons_zero, List.set_cons_succ, i64_w, i32_w]
   rfl
  refine pure_ (i := 2) (N := some 9) (v := ?_) (a' := ?_) #[true, true, true, false, false, false, false, false, false, false, false] rfl rfl (any_of HT_.out (by kernel_rfl)) (fun _ _ _ h => h) (Or.inl ⟨by rfl, ?_⟩) ?_ ?_
  rotate_left
  ·intro w'
   go_simp
   with_reducible rfl
  rotate_left
  ·simp only [Act.put, List.setIfInBounds_toArray, List.set_cons_zero, List.set_cons_succ, i64_w, i32_w]
   rfl
  refine pure_ (i := 3) (N := some 10) (v := undef) (a' := ?_) #[true, true, true, true, false, false, false, false, false, false, false] rfl rfl (any_of HT_.out (by kernel_rfl)) (fun _ _ _ h => h) (Or.inr ⟨by rfl, rfl⟩) ?_ ?_
  rotate_left
  ·simp only [Act.put, List.setIfInBounds_toArray, List.set_cons_zero, List.set_cons_succ, i64_w, i32_w]
   rfl
  refine pure_ (i := 4) (N := some 11) (v := undef) (a' := ?_) #[true, true, true, true, true, false, false, false, false, false, false] rfl rfl (any_of HT_.out (by kernel_rfl)) (fun _ _ _ h => h) (Or.inr ⟨by rfl, rfl⟩) ?_ ?_
  rotate_left
  ·simp only [Act.put, List.setIfInBounds_toArray, List.set_cons_zero, List.set_cons_succ, i64_w, i32_w]
   rfl
  refine pure_ (i := 5) (N := some 12) (v := undef) (a' := ?_) #[true, true, true, true, true, true, false, false, false, false, false] rfl rfl (any_of HT_.out (by kernel_rfl)) (fun _ _ _ h => h) (Or.inr ⟨by rfl, rfl⟩) ?_ ?_
  rotate_left
  ·simp only [Act.put, List.setIfInBounds_toArray, List.set_cons_zero, List.set_cons_succ, i64_w, i32_w]
   rfl
  refine pure_ (i := 6) (N := some 13) (v := undef) (a' := ?_) #[true, true, true, true, true, true, true, false, false, false, false] rfl rfl (any_of HT_.out (by kernel_rfl)) (fun _ _ _ h => h) (Or.inr ⟨by rfl, rfl⟩) ?_ ?_
  rotate_left
  ·simp only [Act.put, List.setIfInBounds_toArray, List.set_cons_zero, List.set_cons_succ, i64_w, i32_w]
   rfl
  refine pure_ (i := 7) (N := some 14) (v := undef) (a' := ?_) #[true, true, true, true, true, true, true, true, false, false, false] rfl rfl (any_of HT_.out (by kernel_rfl)) (fun _ _ _ h => h) (Or.inr ⟨by rfl, rfl⟩) ?_ ?_
  rotate_left
  ·simp only [Act.put, List.setIfInBounds_toArray, List.set_cons_zero, List.set_cons_succ, i64_w, i32_w]
   rfl
  refine pure_ (i := 8) (N := some 15) (v := undef) (a' := ?_) #[true, true, true, true, true, true, true, true, true, false, false] rfl rfl (any_of HT_.out (by kernel_rfl)) (fun _ _ _ h => h) (Or.inr ⟨by rfl, rfl⟩) ?_ ?_
  rotate_left
  ·simp only [Act.put, List.setIfInBounds_toArray, List.set_cons_zero, List.set_cons_succ, i64_w, i32_w]
   rfl
  refine pure_ (i := 9) (N := some 16) (v := ?_) (a' := ?_) #[true, true, true, true, true, true, true, true, true, true, false] rfl rfl (any_of HT_.out (by kernel_rfl)) (fun _ _ _ h => h) (Or.inl ⟨by rfl, ?_⟩) ?_ ?_
  rotate_left
  ·intro w'
   go_simp
   with_reducible rfl
  rotate_left
  ·simp only [Act.put, List.setIfInBounds_toArray, List.set_cons_zero, List.set_cons_succ, i64_w, i32_w]
   rfl
  refine pure_ (i := 10) (N := some 6) (v := ?_) (a' := ?_) #[true, true, true, true, true, true, true, true, true, true, true] rfl rfl (any_of HT_.out (by kernel_rfl)) (fun _ _ _ h => h) (Or.inl ⟨by rfl, ?_⟩) ?_ ?_
  rotate_left
  ·intro w'
   go_simp
   with_reducible rfl
  rotate_left
  ·simp only [Act.put, List.setIfInBounds_toArray, List.set_cons_zero, List.set_cons_succ, i64_w, i32_w]
   rfl
  refine done_ (done_of HT_.out (by kernel_rfl)) ?_
  go_wp2
  go_ret
  exact ⟨rfl, below_step (below_drew1 HB0.out) hb1⟩
 | false =>
  obtain ⟨m, hm⟩ : ∃ m, leastL l a b = m := ⟨_, rfl⟩
  have hLe := least_calls p q c l a b
  rw [hm] at hLe ⊢
  have HLE := Aside0.mk hLe
  clear hLe hm
  go_enter Try.func10, Try.ntmps10
  go_wp2_with (fail)
  go_region_held3 (fun w' => w'.cell? ⟨w.heap.size, 0, none⟩ = some (.int .i64 a) ∧ w'.cell? ⟨w.heap.size, 1, none⟩ = some (.int .i64 b)) (go_keep)
   (first
    | (go_at_call 28; refine (HEM.out _).mono ?_; rintro ev w1 ⟨rfl, hb1⟩; have u0 := below_cell1 hb1 s0; have u1 := below_cell1 hb1 s1; have HS1 := Aside0.mk ((StepsIs.below HS.out (below_drew1 (Below.refl _ _))).below hb1))
    | (go_at_call 36; refine (steps_calls p q c l _ HS1.out hL).mono ?_; rintro ev w2 ⟨rfl, hb2⟩; have v0 := below_cell1 hb2 u0; have v1 := below_cell1 hb2 u1; have HS2 := Aside0.mk (HS1.out.below hb2))
    | (go_at_call 16; refine (HLE.out _ HS2.out hL).mono ?_; rintro ev w3 ⟨rfl, hb3⟩; have t0 := below_cell1 hb3 v0; have t1 := below_cell1 hb3 v1))
  go_wp2
  go_ret
  exact ⟨by simp, below_step (below_step (below_step (below_drew1 HB0.out) hb1) hb2) hb3⟩
end Go.Proofs.Ytlddccmgamlccaa.Us

set_option linter.unusedVariables false
set_option linter.unusedSimpArgs false
namespace Go.Proofs.Ytlddccmgamlccaa.Us
open Go Go.Proofs Go.RowKit Go.Lib Go.Proofs.YtlddccmgamlccaaW.PrintWords Go.Proofs.YtlddccmgamlccaaW.PrintLast Go.Proofs.YtlddccmgamlccaaW.PrintMore

/-- a sum of two times -/
def addT (a b : Int) : Int := clT (clT a + clT b)
theorem wrap64_small {x : Int} (h : 0 ≤ x ∧ x ≤ 2199023255552) : wrap64 x = x := by unfold wrap64; omega
theorem tadd_eq (a b : Int) : tick_Add.f a b = some (addT a b) := by
 have h : ∀ t, tick_Clamp.f t = some (clT t) := fun t => rfl
 have ra := clT_range a
 have rb := clT_range b
 unfold tick_Add.f
 rw [h, h]
 simp only [Option.bind_some]
 rw [wrap64_small (by omega), h]
 rfl
theorem tadd_calls (a b : Int) (w : World) : Calls Try.prog 37 #[.int .i64 a, .int .i64 b] w fun e w' => e = .returned (.int .i64 (addT a b)) ∧ Below w.heap.size w w' := tick_Add.calls a b _ w (tadd_eq a b)
theorem of_eq (a b : Int) : tick_Of.f a b = some (clT a, addT a b) := by
 have h : ∀ t, tick_Clamp.f t = some (clT t) := fun t => rfl
 unfold tick_Of.f
 rw [h, tadd_eq]
 rfl
theorem of_calls (a b : Int) (w : World) : Calls Try.prog 11 #[.int .i64 a, .int .i64 b] w fun e w' => e = .returned (.agg #[.int .i64 (clT a), .int .i64 (addT a b)]) ∧ Below w.heap.size w w' := tick_Of.calls a b _ _ w (of_eq a b)
theorem from_calls (a b : Int) (w : World) : Calls Try.prog 38 #[.int .i64 a, .int .i64 b] w fun e w' => e = .returned (.agg #[.int .i64 (clT a), .int .i64 (addT a (mx b 1))]) ∧ Below w.heap.size w w' := fit_from.calls a b _ _ w (by unfold fit_from.f; rw [of_eq]; rfl)

/-- how much is free from a time on, for so many times -/
def widestL (l : List (Int × Int)) (t many : Int) : Int := if clT t ≥ addT t (mx many 1) then atL l t else leastL l (clT t) (addT t (mx many 1))

set_option maxRecDepth 100000 in
set_option maxHeartbeats 4000000 in
theorem widest_calls (p q c : Nat) (l : List (Int × Int)) (t many : Int) (w : World) (hS : StepsIs w p q c l) (hL : Lev l) :
  Calls Try.prog 12 #[.pointer (some ⟨p, 0, none⟩), .int .i64 t, .int .i64 many] w fun ev w' => ev = .returned (.int .i64 (widestL l t many)) ∧ Below w.heap.size w w' := by
 have hFr := from_calls t many
 have r1 := clT_range t
 have r2 : 0 ≤ addT t (mx many 1) ∧ addT t (mx many 1) ≤ 1099511627776 := clT_range _
 have hW : widestL l t many = if clT t ≥ addT t (mx many 1) then atL l t else leastL l (clT t) (addT t (mx many 1)) := rfl
 obtain ⟨a, ha⟩ : ∃ a, clT t = a := ⟨_, rfl⟩
 obtain ⟨b, hb⟩ : ∃ b, addT t (mx many 1) = b := ⟨_, rfl⟩
 rw [ha] at r1
 rw [hb] at r2
 rw [ha, hb] at hFr hW
 have HFR := Aside0.mk hFr
 have HSt := Aside0.mk (steps_calls p q c l w hS hL)
 have HS := Aside0.mk hS
 clear hS hFr ha hb
 by_cases hab : a ≥ b
 ·rw [if_pos hab] at hW
  rw [hW]
  have e1 : decide (a ≥ b) = true := by simp; omega
  clear hW
  go_enter Try.func12, Try.ntmps12
  go_wp2_with (first
   | (go_at_call 36; refine HSt.out.mono ?_; rintro ev w1 ⟨rfl, hb1⟩)
   | (go_at_call 38; refine (HFR.out _).mono ?_; rintro ev w2 ⟨rfl, hb2⟩; have hbA := below_step hb1 hb2; have nz := blk_new w2 (.cells #[.int .i64 a, .int .i64 b] 25 (0, 0)))
   | (go_at_call 28; refine (pempty_calls (a, b) ⟨r1, r2⟩ _).mono ?_; rintro ev w3 ⟨rfl, hb3⟩; have hbB := below_step (hbA.alloc hbA.size (.cells #[.int .i64 a, .int .i64 b] 25 (0, 0))) hb3; have nz3 := blk_below nz hb3)
   | (go_at_call 39; refine (at_calls p q c l t _ (HS.out.below hbB) hL).mono ?_; rintro ev w4 ⟨rfl, hb4⟩))
  go_ret
  exact ⟨rfl, below_step hbB hb4⟩
 ·rw [if_neg hab] at hW
  rw [hW]
  have e1 : decide (a ≥ b) = false := by simp; omega
  clear hW
  go_enter Try.func12, Try.ntmps12
  go_wp2_with (first
   | (go_at_call 36; refine HSt.out.mono ?_; rintro ev w1 ⟨rfl, hb1⟩)
   | (go_at_call 38; refine (HFR.out _).mono ?_; rintro ev w2 ⟨rfl, hb2⟩; have hbA := below_step hb1 hb2; have nz := blk_new w2 (.cells #[.int .i64 a, .int .i64 b] 25 (0, 0)))
   | (go_at_call 28; refine (pempty_calls (a, b) ⟨r1, r2⟩ _).mono ?_; rintro ev w3 ⟨rfl, hb3⟩; have hbB := below_step (hbA.alloc hbA.size (.cells #[.int .i64 a, .int .i64 b] 25 (0, 0))) hb3; have nz3 := blk_below nz hb3; have c1 : w3.cell? ⟨w2.heap.size, 0, none⟩ = some (.int .i64 a) := (blk_cell nz3 0).trans rfl; have c2 : w3.cell? ⟨w2.heap.size, 1, none⟩ = some (.int .i64 b) := (blk_cell nz3 1).trans rfl)
   | (go_at_call 16; refine (least_calls p q c l a b _ (HS.out.below hbB) hL).mono ?_; rintro ev w4 ⟨rfl, hb4⟩))
  go_ret
  exact ⟨rfl, below_step hbB hb4⟩
end Go.Proofs.Ytlddccmgamlccaa.Us
